/- Eliminate, in plain words. -/
import Derived.Test.YtmflggbpiadkjaaSpecQ
import Derived.Test.YtmflggbpiadkjaaHandU
import Derived.Test.YtmflggbpiadkjaaPx52
namespace Go.Proofs.Ytmflggbpiadkjaa.P
open Go.RowKit Go.Sort Go.Proofs.YtmflggbpiadkjaaW.PrintWords Go.Proofs.YtmflggbpiadkjaaW.PrintLast Go.Proofs.Ytmflggbpiadkjaa.Op
set_option linter.unusedVariables false
set_option linter.unusedSimpArgs false
def negI (c : S34) : S34 := ⟨c.f0, -c.f1, -c.f2⟩
theorem psA_negI (P : S32 → Bool) : ∀ (l : List S34), psA P (l.map negI) = - psA P l ∧ psB P (l.map negI) = - psB P l := ps_neg P
/-- The cell for a difference. -/
def pcI (cur diff : ByteArray) (p : S89) : S34 := ⟨⟨p.f0, diff, cur, ⟨#[]⟩, ⟨#[]⟩⟩, p.f2, p.f2⟩
def nzP (p : S89) : Bool := decide (p.f2 ≠ 0)
def elCells (cur diff : ByteArray) (i : List S34) (p : List S89) : List S34 := i.map negI ++ p.map (pcI cur diff)
def codeB (s : ByteArray) : Bool := decide (0 < s.size) && (decide (s.size ≤ 12) && allFrom isCodeByte s 0)
/-- What Eliminate answers. -/
def elimK (cur diff : ByteArray) (m : List ByteArray) (l : List S34) : List S34 × Int :=
  if rightB l = true then (if monB cur = true then (if codeB diff = true then (if (prK (inK m l)).2 = 0 then ofK (elCells cur diff (inK m l) (prK (inK m l)).1) else ([], (prK (inK m l)).2)) else ([], 7)) else ([], 13)) else ([], 2)
theorem nz_cells (cur diff : ByteArray) (i : List S34) (p : List S89) : ofK (elCells cur diff i (p.filter nzP)) = ofK (elCells cur diff i p) := by
  have h : ∀ (P : S32 → Bool) (p : List S89), psA P ((p.filter nzP).map (pcI cur diff)) = psA P (p.map (pcI cur diff)) ∧ psB P ((p.filter nzP).map (pcI cur diff)) = psB P (p.map (pcI cur diff)) := by
    intro P p
    induction p with
    | nil => exact ⟨rfl, rfl⟩
    | cons x r ih =>
      by_cases c : nzP x = true
      · rw [List.filter_cons_of_pos c, List.map_cons, List.map_cons, psA_cons, psB_cons, psA_cons, psB_cons, ih.1, ih.2]
        exact ⟨rfl, rfl⟩
      · rw [List.filter_cons_of_neg c, List.map_cons, psA_cons, psB_cons, ih.1, ih.2]
        have e : x.f2 = 0 := by
          unfold nzP at c
          rw [decide_eq_true_iff] at c
          omega
        show _ = (if _ then x.f2 else 0) + _ ∧ _ = (if _ then x.f2 else 0) + _
        rw [e]
        constructor <;> (split <;> omega)
  refine ofK_congr (fun k => ?_)
  unfold elCells
  rw [sumA_ps, sumB_ps, sumA_ps, sumB_ps, psA_append, psB_append, psA_append, psB_append, (h _ p).1, (h _ p).2]
  exact ⟨rfl, rfl⟩
theorem prK_fit {l : List S34} (h : (prK l).2 = 0) : ∀ p ∈ (prK l).1, fitB p.f2 = true := by
  rw [prK_prs] at h ⊢
  by_cases c : (prsOf l).all (fun p => fitB p.f2) = true
  · rw [if_pos c]
    exact fun p hp => List.all_eq_true.1 c p hp
  · rw [if_neg c] at h; cases h
theorem okS_cells {cur diff : ByteArray} {m : List ByteArray} {l : List S34} (h : RightL l) (hl : l.length ≤ 1000) {p : List S89} (hp : ∀ x ∈ p, fitB x.f2 = true) (hpl : p.length ≤ 1000) : OkS (elCells cur diff (inK m l) p) := by
  refine ⟨?_, fun x hx => ?_⟩
  · unfold elCells
    rw [List.length_append, List.length_map, List.length_map]
    have := in_le m l
    omega
  · rcases List.mem_append.1 hx with hx | hx
    · obtain ⟨c, hc, rfl⟩ := List.mem_map.1 hx
      have h1 := (bad_iff c).1 (h.1 c (List.mem_filter.1 hc).1)
      have h2 := h1.2.1
      have h3 := h1.2.2
      unfold fitB at h2 h3
      rw [Bool.and_eq_true, decide_eq_true_iff, decide_eq_true_iff] at h2 h3
      show i64ok (-c.f1) ∧ i64ok (-c.f2)
      unfold i64ok
      omega
    · obtain ⟨q, hq, rfl⟩ := List.mem_map.1 hx
      have h3 := fit_i64 (hp q hq)
      exact ⟨h3, h3⟩
theorem el_l1 (cur diff : ByteArray) (p : List S89) (i : List S34) (hp : p.length ≤ 1000000) (hi : i.length ≤ 1000000) (hok : OkS (elCells cur diff i (p.filter nzP))) : ∀ (n j : Nat), p.length - j = n → j ≤ p.length → Ev (fun k => interco_Eliminate.l1 k cur diff (elCells cur diff i ((p.take j).filter nzP)) p (p.length : Int) (j : Int)) (ofK (elCells cur diff i p)) := by
  intro n
  induction n with
  | zero =>
    intro j hn hj
    refine Ev.step (fun k => interco_Eliminate.l1.eq_2 _ _ _ _ _ _ k) ?_
    rw [List.take_of_length_le (by omega)]
    unfold sheet_Of.f
    simp only [if_neg (show ¬ ((j : Int) < (p.length : Int)) by omega), if_pos hok, Option.bind_some, nz_cells]
    exact Ev.now _
  | succ n ih =>
    intro j hn hj
    have hjl : j < p.length := by omega
    have hw : wrap64 ((j : Int) + 1) = ((j + 1 : Nat) : Int) := by rw [w64 (by omega) (by omega)]; omega
    have ih := ih (j + 1) (by omega) (by omega)
    have ht : (p.take (j + 1)).filter nzP = (p.take j).filter nzP ++ [p[j]].filter nzP := by rw [List.take_add_one, List.getElem?_eq_getElem hjl, List.filter_append]; rfl
    rw [ht] at ih
    have hlen : (elCells cur diff i ((p.take j).filter nzP)).length < 1466015503701 := by
      unfold elCells
      rw [List.length_append, List.length_map, List.length_map]
      have := List.length_filter_le nzP (p.take j)
      rw [List.length_take] at this
      omega
    refine Ev.step (fun k => interco_Eliminate.l1.eq_2 _ _ _ _ _ _ k) ?_
    simp only [if_pos (show ((j : Int) < (p.length : Int)) by omega), if_pos (show (0 : Int) ≤ (j : Int) by omega), hw, rd89_at hjl, if_pos hlen]
    by_cases c : p[j].f2 = 0
    · rw [List.filter_cons_of_neg (by unfold nzP; rw [decide_eq_true_iff]; exact fun h => h c), List.filter_nil, List.append_nil] at ih
      simp only [if_pos c]
      exact ih
    · rw [List.filter_cons_of_pos (by unfold nzP; exact decide_eq_true c), List.filter_nil] at ih
      simp only [if_neg c]
      have e : elCells cur diff i ((p.take j).filter nzP ++ [p[j]]) = elCells cur diff i ((p.take j).filter nzP) ++ [pcI cur diff p[j]] := by
        unfold elCells
        rw [List.map_append, List.append_assoc]
        rfl
      rw [e] at ih
      exact ih
theorem el_l0 (cur diff : ByteArray) (p : List S89) (i : List S34) (hp : p.length ≤ 1000000) (hi : i.length ≤ 1000000) (hb : ∀ c ∈ i, -1000000000000000 ≤ c.f1 ∧ c.f1 ≤ 1000000000000000 ∧ -1000000000000000 ≤ c.f2 ∧ c.f2 ≤ 1000000000000000) (hok : OkS (elCells cur diff i (p.filter nzP))) : ∀ (n j : Nat), i.length - j = n → j ≤ i.length → Ev (fun k => interco_Eliminate.l0 k cur diff p ((i.take j).map negI) i (i.length : Int) (j : Int)) (ofK (elCells cur diff i p)) := by
  intro n
  induction n with
  | zero =>
    intro j hn hj
    refine Ev.step (fun k => interco_Eliminate.l0.eq_2 _ _ _ _ _ _ _ k) ?_
    rw [List.take_of_length_le (by omega)]
    simp only [if_neg (show ¬ ((j : Int) < (i.length : Int)) by omega)]
    have h := el_l1 cur diff p i hp hi hok _ 0 rfl (Nat.zero_le _)
    have e : elCells cur diff i ((p.take 0).filter nzP) = i.map negI := by unfold elCells; simp
    rw [e] at h
    exact h
  | succ n ih =>
    intro j hn hj
    have hjl : j < i.length := by omega
    have hw : wrap64 ((j : Int) + 1) = ((j + 1 : Nat) : Int) := by rw [w64 (by omega) (by omega)]; omega
    have hc := hb _ (List.getElem_mem hjl)
    have hw1 : wrap64 (-i[j].f1) = -i[j].f1 := w64 (by omega) (by omega)
    have hw2 : wrap64 (-i[j].f2) = -i[j].f2 := w64 (by omega) (by omega)
    have e : (⟨⟨i[j].f0.f0, i[j].f0.f1, i[j].f0.f2, i[j].f0.f3, i[j].f0.f4⟩, -i[j].f1, -i[j].f2⟩ : S34) = negI i[j] := rfl
    have ht : (i.take j).map negI ++ [negI i[j]] = (i.take (j + 1)).map negI := by
      rw [List.take_add_one, List.getElem?_eq_getElem hjl, List.map_append]; rfl
    refine Ev.step (fun k => interco_Eliminate.l0.eq_2 _ _ _ _ _ _ _ k) ?_
    simp only [if_pos (show ((j : Int) < (i.length : Int)) by omega), if_pos (show (0 : Int) ≤ (j : Int) by omega), hw, rd34_at hjl, if_pos (show ((i.take j).map negI).length < 1466015503701 by rw [List.length_map, List.length_take]; omega), hw1, hw2, e, ht]
    exact ih (j + 1) (by omega) (by omega)
theorem bnd_in2 {m : List ByteArray} {l : List S34} (h : RightL l) : ∀ c ∈ inK m l, -1000000000000000 ≤ c.f1 ∧ c.f1 ≤ 1000000000000000 ∧ -1000000000000000 ≤ c.f2 ∧ c.f2 ≤ 1000000000000000 := by
  intro c hc
  have h1 := (bad_iff c).1 (h.1 c (List.mem_filter.1 hc).1)
  have h2 := h1.2.1
  have h3 := h1.2.2
  unfold fitB at h2 h3
  rw [Bool.and_eq_true, decide_eq_true_iff, decide_eq_true_iff] at h2 h3
  omega
theorem elim_ev (cur diff : ByteArray) (m : List ByteArray) (l : List S34) (hl : l.length ≤ 1000) (hm : FitM l m) (hc : cur.size ≤ maxLen) : Ev (fun k => interco_Eliminate.f k l cur diff m) (elimK cur diff m l) := by
  unfold interco_Eliminate.f sheet_Right.f elimK money_Code.f words_Code.f
  simp only [Option.bind_some, if_pos hc]
  by_cases hr : rightB l = true
  · simp only [if_pos hr]
    by_cases hmn : monB cur = true
    · simp only [if_pos hmn]
      have e : (decide (0 < diff.size) && (decide (diff.size ≤ 12) && allFrom isCodeByte diff 0)) = codeB diff := rfl
      simp only [e]
      by_cases hcd : codeB diff = true
      · simp only [if_pos hcd]
        have hR := (right_iff l).1 hr
        refine Ev.bind (inside_ev m l (by omega) hm) ?_
        unfold interco_pairs.f
        simp only [if_pos (fitP_in hR hl hm), Option.bind_some]
        by_cases h0 : (prK (inK m l)).2 = 0
        · simp only [if_pos h0]
          have h1 := in_le m l
          have h2 := prK_len (inK m l)
          exact el_l0 cur diff (prK (inK m l)).1 (inK m l) (by omega) (by omega) (bnd_in2 hR) (okS_cells hR hl (fun x hx => prK_fit h0 x (List.mem_filter.1 hx).1) (by have := List.length_filter_le nzP (prK (inK m l)).1; omega)) _ 0 rfl (Nat.zero_le _)
        · simp only [if_neg h0]; exact Ev.now _
      · simp only [if_neg hcd]; exact Ev.now _
    · simp only [if_neg hmn]; exact Ev.now _
  · simp only [if_neg hr]; exact Ev.now _
theorem elimK_len (cur diff : ByteArray) (m : List ByteArray) (l : List S34) (hl : l.length ≤ 1000) : (elimK cur diff m l).1.length ≤ 2000 := by
  unfold elimK
  repeat' split
  any_goals exact Nat.zero_le _
  refine Nat.le_trans (ofK_le _) ?_
  unfold elCells
  rw [List.length_append, List.length_map, List.length_map]
  have h1 := in_le m l
  have h2 := prK_len (inK m l)
  omega
end Go.Proofs.Ytmflggbpiadkjaa.P
