/- Pairs of both sides, in plain words. -/
import Derived.Test.YtmflggbpiadkjaaSpecI
import Derived.Test.YtmflggbpiadkjaaHandPrp
import Derived.Test.YtmflggbpiadkjaaHandMk
import Derived.Test.YtmflggbpiadkjaaPx49
import Derived.Test.YtmflggbpiadkjaaPxI
namespace Go.Proofs.Ytmflggbpiadkjaa.P
open Go.RowKit Go.Sort Go.Proofs.YtmflggbpiadkjaaW.PrintWords Go.Proofs.YtmflggbpiadkjaaW.PrintLast Go.Proofs.Ytmflggbpiadkjaa.Op
set_option linter.unusedVariables false
set_option linter.unusedSimpArgs false
/-! ### put -/
def putP (x : S89) : List S89 → List S89
  | [] => [x]
  | y :: r => if cmpK (pk y) (pk x) < 0 then y :: putP x r else if cmpK (pk y) (pk x) = 0 then ⟨y.f0, y.f1, y.f2 + x.f2⟩ :: r else x :: y :: r
theorem putP_at (x : S89) : ∀ (P : List S89) (i : Nat), i ≤ P.length → (∀ q (h : q < P.length), q < i → cmpK (pk P[q]) (pk x) < 0) → (∀ h : i < P.length, ¬ cmpK (pk P[i]) (pk x) < 0) →
    putP x P = if h : i < P.length then (if cmpK (pk P[i]) (pk x) = 0 then P.set i ⟨P[i].f0, P[i].f1, P[i].f2 + x.f2⟩ else P.take i ++ [x] ++ P.drop i) else P.take i ++ [x] ++ P.drop i
  | [], i, hi, _, _ => by
    have : i = 0 := by simpa using hi
    subst this
    rw [dif_neg (by simp)]
    rfl
  | y :: r, 0, hi, h1, h2 => by
    have h0 := h2 (by simp)
    rw [dif_pos (by simp)]
    unfold putP
    simp only [List.getElem_cons_zero] at h0 ⊢
    rw [if_neg h0]
    rfl
  | y :: r, i + 1, hi, h1, h2 => by
    have h0 := h1 0 (by simp) (by omega)
    simp only [List.getElem_cons_zero] at h0
    unfold putP
    rw [if_pos h0, putP_at x r i (by simpa using hi) (fun q hq hqi => by
      have := h1 (q + 1) (by simp; omega) (by omega)
      simpa using this) (fun h => by
      have := h2 (by simp; omega)
      simpa using this)]
    by_cases hlt : i < r.length
    · rw [dif_pos hlt, dif_pos (show i + 1 < (y :: r).length by simp; omega)]
      simp only [List.getElem_cons_succ]
      by_cases c : cmpK (pk r[i]) (pk x) = 0
      · rw [if_pos c, if_pos c]; rfl
      · rw [if_neg c, if_neg c]; rfl
    · rw [dif_neg hlt, dif_neg (show ¬ i + 1 < (y :: r).length by simp; omega)]
      rfl
theorem less_iff (a b : ByteArray) : Op.bytesLess a.toList b.toList = true ↔ cmpB a b < 0 := by
  rw [cmpB_less]
  by_cases h : Op.bytesLess a.toList b.toList = true
  · rw [if_pos h]; simp [h]
  · rw [if_neg h]
    by_cases h2 : Op.bytesLess b.toList a.toList = true
    · rw [if_pos h2]; simp [h]
    · rw [if_neg h2]; simp [h]
theorem ba_eq (a b : ByteArray) : a.toList = b.toList ↔ cmpB a b = 0 := by
  constructor
  · intro h
    have e : a = b := ByteArray.ext (Array.ext' (by rw [← ByteArray.toList_eq a, ← ByteArray.toList_eq b]; exact h))
    rw [e]; exact cmp3_B.refl b
  · intro h; rw [cmpB_zero h]
/-! ### The pairs of some cells -/
def mkP (f : S32 → Int) (k : S32) : S89 := ⟨k.f0, k.f1, f k⟩
def prsOf (l : List S34) : List S89 := (keysK (l.map ck)).map (mkP (sumB (l.map ck)))
theorem put_map (k : K2) (n : Int) (f f' : S32 → Int) (hf : ∀ s, f' s = f s + if isK s (k2S k) = true then n else 0) : ∀ (ks : List S32), SS ks → (∀ s ∈ ks, ∃ q, s = k2S q) → (k2S k ∉ ks → f (k2S k) = 0) → putP ⟨k.1, k.2, n⟩ (ks.map (mkP f)) = (insK (k2S k) ks).map (mkP f')
  | [], _, _, h0 => by
    have e : f' (k2S k) = n := by rw [hf, if_pos (isK_iff.2 rfl), h0 (by simp)]; omega
    show [(⟨k.1, k.2, n⟩ : S89)] = [mkP f' (k2S k)]
    unfold mkP
    rw [e]; rfl
  | h :: t, hs, hq, h0 => by
    have hs' := List.pairwise_cons.1 hs
    obtain ⟨hk, rfl⟩ := hq h (by simp)
    have epk : pk (mkP f (k2S hk)) = k2S hk := rfl
    have exk : pk (⟨k.1, k.2, n⟩ : S89) = k2S k := rfl
    have sw := cmp3_K.sw (k2S hk) (k2S k)
    have same : ∀ s, s ≠ k2S k → mkP f s = mkP f' s := fun s hne => by
      unfold mkP
      rw [hf, if_neg (fun e => hne (isK_iff.1 e)), Int.add_zero]
    rw [List.map_cons]
    unfold putP insK
    rw [epk, exk]
    by_cases c1 : cmpK (k2S hk) (k2S k) < 0
    · rw [if_pos c1, if_neg (show ¬ cmpK (k2S k) (k2S hk) < 0 by omega), if_neg (show ¬ cmpK (k2S k) (k2S hk) = 0 by omega), List.map_cons, put_map k n f f' hf t hs'.2 (fun s hs => hq s (by simp [hs])) (fun hn => h0 (fun hm => by
        rcases List.mem_cons.1 hm with e | e
        · rw [e, cmpK_self] at c1; omega
        · exact hn e)), same (k2S hk) (fun e => by rw [e, cmpK_self] at c1; omega)]
    · rw [if_neg c1]
      by_cases c2 : cmpK (k2S hk) (k2S k) = 0
      · have e := cmpK_zero c2
        rw [if_pos c2, if_neg (show ¬ cmpK (k2S k) (k2S hk) < 0 by omega), if_pos (show cmpK (k2S k) (k2S hk) = 0 by omega), List.map_cons]
        congr 1
        · unfold mkP
          rw [hf, if_pos (isK_iff.2 e)]
        · exact List.map_congr_left (fun s hs => same s (fun e2 => by
            have := hs'.1 s hs
            rw [e2, e, cmpK_self] at this
            omega))
      · rw [if_neg c2, if_pos (show cmpK (k2S k) (k2S hk) < 0 by omega), List.map_cons, List.map_cons]
        have hlt : cmpK (k2S k) (k2S hk) < 0 := by omega
        have hnot : ∀ s ∈ k2S hk :: t, s ≠ k2S k := fun s hs e => by
          rcases List.mem_cons.1 hs with e2 | e2
          · rw [← e2, e, cmpK_self] at hlt; omega
          · have := cmpK_trans hlt (hs'.1 s e2)
            rw [e, cmpK_self] at this
            omega
        congr 1
        · unfold mkP
          rw [hf, if_pos (isK_iff.2 rfl), h0 (fun hm => hnot _ hm rfl), Int.zero_add]
          rfl
        · congr 1
          · exact same _ (hnot _ (by simp))
          · exact List.map_congr_left (fun s hs => same s (hnot s (by simp [hs])))
theorem prs_step (l : List S34) (c : S34) : putP ⟨(cpl c).1, (cpl c).2, c.f2⟩ (prsOf l) = prsOf (l ++ [c]) := by
  unfold prsOf
  have hf : ∀ s, sumB ((l ++ [c]).map ck) s = sumB (l.map ck) s + if isK s (k2S (cpl c)) = true then c.f2 else 0 := fun s => by
    rw [List.map_append, sumB_ps, psB_append, sumB_ps]
    show _ + psB (isK s) [ck c] = _
    rw [psB_cons, psB_nil, Int.add_zero]
    rfl
  rw [put_map (cpl c) c.f2 (sumB (l.map ck)) (sumB ((l ++ [c]).map ck)) hf _ (ss_keysK _) (fun s hs => by
    obtain ⟨x, hx, rfl⟩ := (mem_keysK s _).1 hs
    obtain ⟨y, hy, rfl⟩ := List.mem_map.1 hx
    exact ⟨cpl y, rfl⟩) sumB_none]
  congr 1
  have hp : keysK ((l ++ [c]).map ck) = keysK (ck c :: l.map ck) := keysK_perm (by rw [List.map_append]; exact List.perm_append_comm)
  rw [hp]
  rfl
theorem prs_len (l : List S34) : (prsOf l).length ≤ l.length := by
  unfold prsOf
  rw [List.length_map]
  have := keysK_le (l.map ck)
  rw [List.length_map] at this
  exact this
theorem ps_bound (P : S32 → Bool) : ∀ (l : List S34), (∀ c ∈ l, -1000000000000000 ≤ c.f2 ∧ c.f2 ≤ 1000000000000000) → -(1000000000000000 * (l.length : Int)) ≤ psB P l ∧ psB P l ≤ 1000000000000000 * (l.length : Int)
  | [], _ => by simp [psB_nil]
  | c :: r, h => by
    have ih := ps_bound P r (fun x hx => h x (by simp [hx]))
    have hc := h c (by simp)
    rw [psB_cons]
    simp only [List.length_cons]
    push_cast
    split <;> omega
theorem prs_bound (l : List S34) (hl : l.length ≤ 1000) (hb : ∀ c ∈ l, -1000000000000000 ≤ c.f2 ∧ c.f2 ≤ 1000000000000000) : ∀ p ∈ prsOf l, -1000000000000000000 ≤ p.f2 ∧ p.f2 ≤ 1000000000000000000 := by
  intro p hp
  obtain ⟨k, _, rfl⟩ := List.mem_map.1 hp
  have := ps_bound (isK k) (l.map ck) (fun c hc => by
    obtain ⟨x, hx, rfl⟩ := List.mem_map.1 hc
    exact hb x hx)
  rw [List.length_map] at this
  show -1000000000000000000 ≤ sumB (l.map ck) k ∧ sumB (l.map ck) k ≤ 1000000000000000000
  rw [sumB_ps]
  omega
theorem prK_prs (l : List S34) : prK l = if (prsOf l).all (fun p => fitB p.f2) = true then (prsOf l, 0) else ([], 4) := by
  unfold prK prsOf
  rw [List.all_map]
  rfl
/-- What Pairs answers. -/
def pairsK (m : List ByteArray) (l : List S34) : List S89 × Int := if rightB l = true then prK (inK m l) else ([], 2)
theorem bnd_in {m : List ByteArray} {l : List S34} (h : RightL l) : ∀ c ∈ inK m l, -1000000000000000 ≤ c.f2 ∧ c.f2 ≤ 1000000000000000 := by
  intro c hc
  have h1 := (bad_iff c).1 (h.1 c (List.mem_filter.1 hc).1)
  have h3 := h1.2.2
  unfold fitB at h3
  rw [Bool.and_eq_true, decide_eq_true_iff, decide_eq_true_iff] at h3
  exact h3
theorem fitP_in {m : List ByteArray} {l : List S34} (h : RightL l) (hl : l.length ≤ 1000) (hm : FitM l m) : FitP (inK m l) :=
  ⟨by have := in_le m l; omega, fun c hc => by have := bnd_in h c hc; unfold i64ok; omega, fun c hc => hm.2.2 c (List.mem_filter.1 hc).1⟩
theorem pairs_ev (m : List ByteArray) (l : List S34) (hl : l.length ≤ 1000) (hm : FitM l m) : Ev (fun k => interco_Pairs.f k l m) (pairsK m l) := by
  unfold interco_Pairs.f sheet_Right.f pairsK
  simp only [Option.bind_some]
  by_cases hr : rightB l = true
  · simp only [if_pos hr]
    refine Ev.bind (inside_ev m l (by omega) hm) ?_
    unfold interco_pairs.f
    simp only [if_pos (fitP_in ((right_iff l).1 hr) hl hm), Option.bind_some]
    exact Ev.now _
  · simp only [if_neg hr]; exact Ev.now _
theorem pairsK_len (m : List ByteArray) (l : List S34) : (pairsK m l).1.length ≤ l.length := by
  unfold pairsK
  split
  · exact Nat.le_trans (prK_len _) (in_le m l)
  · exact Nat.zero_le _
theorem same89_l0 (l : List S89) (hl : l.length ≤ 1000000) : ∀ (n i : Nat), l.length - i = n → i ≤ l.length → Ev (fun k => accountingref44_Same.l0 k l l (i : Int)) true := by
  intro n
  induction n with
  | zero =>
    intro i hn hi
    refine Ev.step (fun k => accountingref44_Same.l0.eq_2 _ _ _ k) ?_
    simp only [if_neg (show ¬ ((i : Int) < (l.length : Int)) by omega)]
    exact Ev.now _
  | succ n ih =>
    intro i hn hi
    have hw : wrap64 ((i : Int) + 1) = ((i + 1 : Nat) : Int) := by rw [w64 (by omega) (by omega)]; omega
    refine Ev.step (fun k => accountingref44_Same.l0.eq_2 _ _ _ k) ?_
    simp only [if_pos (show ((i : Int) < (l.length : Int)) by omega), if_pos (show (0 : Int) ≤ (i : Int) by omega), hw, BEq.rfl, Bool.not_true, Bool.or_false, Bool.false_eq_true, if_false]
    exact ih (i + 1) (by omega) (by omega)
theorem same89_ev (l : List S89) (hl : l.length ≤ 1000000) : Ev (fun k => accountingref44_Same.f k l l) true := by
  unfold accountingref44_Same.f
  simp only [if_true]
  exact same89_l0 l hl _ 0 rfl (Nat.zero_le _)
end Go.Proofs.Ytmflggbpiadkjaa.P
