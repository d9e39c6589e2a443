/- Pairs of the reference, in plain words. -/
import Derived.Test.YtmflggbpiadkjaaSpecQ
import Derived.Test.YtmflggbpiadkjaaSpecIr
import Derived.Test.YtmflggbpiadkjaaPx57
import Derived.Test.YtmflggbpiadkjaaPx58
namespace Go.Proofs.Ytmflggbpiadkjaa.P
open Go.RowKit Go.Sort Go.Proofs.YtmflggbpiadkjaaW.PrintWords Go.Proofs.YtmflggbpiadkjaaW.PrintLast Go.Proofs.Ytmflggbpiadkjaa.Op
set_option linter.unusedVariables false
set_option linter.unusedSimpArgs false
theorem follows_pure (x y : S89) : accountingref44_follows.f x.f0 x.f1 x.f2 y.f0 y.f1 y.f2 = some (decide (cmpK (pk y) (pk x) < 0)) := by
  unfold accountingref44_follows.f
  have e : cmpK (pk y) (pk x) = if cmpB y.f0 x.f0 = 0 then cmpB y.f1 x.f1 else cmpB y.f0 x.f0 := cmp_k2 (y.f0, y.f1) (x.f0, x.f1)
  have sw := cmp3_B.sw x.f0 y.f0
  by_cases h : Op.bytesLess y.f0.toList x.f0.toList = true
  · have h1 := (less_iff _ _).1 h
    rw [if_pos h, e, if_neg (by omega), decide_eq_true h1]
  · have h1 : ¬ cmpB y.f0 x.f0 < 0 := fun h2 => h ((less_iff _ _).2 h2)
    rw [if_neg h]
    by_cases h3 : x.f0.toList = y.f0.toList
    · have h4 := (ba_eq _ _).1 h3
      rw [if_pos h3, e, if_pos (by omega)]
      congr 1
      rw [Bool.eq_iff_iff, decide_eq_true_iff]
      exact less_iff _ _
    · have h4 : ¬ cmpB x.f0 y.f0 = 0 := fun h5 => h3 ((ba_eq _ _).2 h5)
      rw [if_neg h3, e, if_neg (by omega), decide_eq_false h1]
theorem put_j2 (P : List S89) (x : S89) (i : Nat) (hi : i ≤ P.length) (hl : P.length ≤ 1000000) : Ev (fun k => accountingref44_put.j2 k P (i : Int) false x.f0 x.f1 x.f2) (P.take i ++ [x] ++ P.drop i) := by
  refine Ev.step (fun k => accountingref44_put.j2.eq_2 _ _ _ _ _ _ k) ?_
  have h1 : (P.take i).length ≤ 1000000 := by rw [List.length_take]; omega
  have h2 : (P.drop i).length ≤ 1000000 := by rw [List.length_drop]; omega
  simp only [Bool.false_eq_true, if_false, Option.bind_some, if_pos (show (0 : Int) ≤ (i : Int) by omega), if_pos (show (i : Int) ≤ (P.length : Int) by omega), Int.toNat_natCast, List.nil_append, List.length_nil, Nat.zero_add, if_pos (show (P.take i).length < 3518437208883 by omega), List.length_append, List.length_cons, if_pos (show (P.take i).length + 1 + (P.drop i).length < 3518437208883 by omega)]
  exact Ev.now _
theorem put_l0 (P : List S89) (x : S89) (hl : P.length ≤ 1000000) (hb : ∀ p ∈ P, i64ok (p.f2 + x.f2)) : ∀ (n i : Nat), P.length - i = n → i ≤ P.length → (∀ q (h : q < P.length), q < i → cmpK (pk P[q]) (pk x) < 0) → Ev (fun k => accountingref44_put.l0 k P (i : Int) x.f0 x.f1 x.f2) (putP x P) := by
  have keq : ∀ y : S89, (y.f0.toList = x.f0.toList ∧ y.f1.toList = x.f1.toList) ↔ cmpK (pk y) (pk x) = 0 := fun y => by
    have e : cmpK (pk y) (pk x) = if cmpB y.f0 x.f0 = 0 then cmpB y.f1 x.f1 else cmpB y.f0 x.f0 := cmp_k2 (y.f0, y.f1) (x.f0, x.f1)
    rw [e, ba_eq, ba_eq]
    by_cases h : cmpB y.f0 x.f0 = 0
    · rw [if_pos h]; exact ⟨fun h2 => h2.2, fun h2 => ⟨h, h2⟩⟩
    · rw [if_neg h]; exact ⟨fun h2 => h2.1, fun h2 => absurd h2 h⟩
  have fin : ∀ (i : Nat), i ≤ P.length → (∀ q (h : q < P.length), q < i → cmpK (pk P[q]) (pk x) < 0) → (∀ h : i < P.length, ¬ cmpK (pk P[i]) (pk x) < 0) → Ev (fun k => accountingref44_put.j1 k P (i : Int) x.f0 x.f1 x.f2) (putP x P) := by
    intro i hi h1 h2
    rw [putP_at x P i hi h1 h2]
    refine Ev.step (fun k => accountingref44_put.j1.eq_2 _ _ _ _ _ k) ?_
    by_cases hlt : i < P.length
    · rw [dif_pos hlt]
      simp only [if_pos (show (i : Int) < (P.length : Int) by omega), if_pos (show (0 : Int) ≤ (i : Int) by omega), rd89_at hlt]
      by_cases ha : P[i].f0.toList = x.f0.toList
      · simp only [if_pos ha]
        by_cases hbb : P[i].f1.toList = x.f1.toList
        · rw [if_pos ((keq P[i]).1 ⟨ha, hbb⟩)]
          simp only [beq_iff_eq.2 hbb]
          refine Ev.step (fun k => accountingref44_put.j2.eq_2 _ _ _ _ _ _ k) ?_
          have hw := hb P[i] (List.getElem_mem hlt)
          simp only [if_true, if_pos (show (i : Int) < (P.length : Int) by omega), if_pos (show (0 : Int) ≤ (i : Int) by omega), rd89_at hlt, Int.toNat_natCast, w64 hw.1 hw.2]
          exact Ev.now _
        · rw [if_neg (fun h => hbb ((keq P[i]).2 h).2)]
          simp only [beq_eq_false_iff_ne.2 hbb]
          exact put_j2 P x i hi hl
      · rw [if_neg (fun h => ha ((keq P[i]).2 h).1)]
        simp only [if_neg ha]
        exact put_j2 P x i hi hl
    · rw [dif_neg hlt]
      simp only [if_neg (show ¬ (i : Int) < (P.length : Int) by omega)]
      exact put_j2 P x i hi hl
  intro n
  induction n with
  | zero =>
    intro i hn hi h1
    refine Ev.step (fun k => accountingref44_put.l0.eq_2 _ _ _ _ _ k) ?_
    simp only [if_neg (show ¬ ((i : Int) < (P.length : Int)) by omega)]
    exact fin i hi h1 (fun h => absurd h (by omega))
  | succ n ih =>
    intro i hn hi h1
    have hil : i < P.length := by omega
    have hw : wrap64 ((i : Int) + 1) = ((i + 1 : Nat) : Int) := by rw [w64 (by omega) (by omega)]; omega
    refine Ev.step (fun k => accountingref44_put.l0.eq_2 _ _ _ _ _ k) ?_
    simp only [if_pos (show ((i : Int) < (P.length : Int)) by omega), if_pos (show (0 : Int) ≤ (i : Int) by omega), hw, rd89_at hil, follows_pure, Option.bind_some, decide_eq_true_eq]
    by_cases c : cmpK (pk P[i]) (pk x) < 0
    · simp only [if_pos c]
      refine ih (i + 1) (by omega) (by omega) (fun q hq hqi => ?_)
      rcases Nat.lt_or_ge q i with h | h
      · exact h1 q hq h
      · obtain rfl : q = i := by omega
        exact c
    · simp only [if_neg c]
      exact fin i hi h1 (fun _ => c)
theorem put_ev (P : List S89) (x : S89) (hl : P.length ≤ 1000000) (hb : ∀ p ∈ P, i64ok (p.f2 + x.f2)) : Ev (fun k => accountingref44_put.f k P x.f0 x.f1 x.f2) (putP x P) :=
  put_l0 P x hl hb _ 0 rfl (Nat.zero_le _) (fun q _ h => absurd h (by omega))
theorem chk_l1 (P : List S89) (hl : P.length ≤ 1000000) : ∀ (n i : Nat), P.length - i = n → i ≤ P.length → Ev (fun k => accountingref44_Pairs.l1 k P (i : Int)) (if (P.drop i).all (fun p => fitB p.f2) = true then (P, 0) else ([], 4)) := by
  intro n
  induction n with
  | zero =>
    intro i hn hi
    refine Ev.step (fun k => accountingref44_Pairs.l1.eq_2 _ _ k) ?_
    rw [List.drop_of_length_le (by omega)]
    simp only [if_neg (show ¬ ((i : Int) < (P.length : Int)) by omega), List.all_nil, if_true]
    exact Ev.now _
  | succ n ih =>
    intro i hn hi
    have hil : i < P.length := by omega
    have hw : wrap64 ((i : Int) + 1) = ((i + 1 : Nat) : Int) := by rw [w64 (by omega) (by omega)]; omega
    refine Ev.step (fun k => accountingref44_Pairs.l1.eq_2 _ _ k) ?_
    rw [List.drop_eq_getElem_cons hil, List.all_cons]
    simp only [if_pos (show ((i : Int) < (P.length : Int)) by omega), if_pos (show (0 : Int) ≤ (i : Int) by omega), hw, rd89_at hil]
    by_cases c1 : P[i].f2 > 1000000000000000
    · have hf : fitB P[i].f2 = false := by unfold fitB; rw [decide_eq_false (show ¬ P[i].f2 ≤ 1000000000000000 by omega), Bool.and_false]
      simp only [if_pos c1, hf, Bool.false_and, Bool.false_eq_true, if_false]
      exact Ev.now _
    · simp only [if_neg c1]
      by_cases c2 : P[i].f2 < -1000000000000000
      · have hf : fitB P[i].f2 = false := by unfold fitB; rw [decide_eq_false (show ¬ -1000000000000000 ≤ P[i].f2 by omega), Bool.false_and]
        simp only [if_pos c2, hf, Bool.false_and, Bool.false_eq_true, if_false]
        exact Ev.now _
      · have hf : fitB P[i].f2 = true := by unfold fitB; rw [decide_eq_true (show -1000000000000000 ≤ P[i].f2 by omega), decide_eq_true (show P[i].f2 ≤ 1000000000000000 by omega)]; rfl
        simp only [if_neg c2, hf, Bool.true_and]
        exact ih (i + 1) (by omega) (by omega)
theorem refpairs_l0 (l : List S34) (hl : l.length ≤ 1000) (hb : ∀ c ∈ l, -1000000000000000 ≤ c.f2 ∧ c.f2 ≤ 1000000000000000) : ∀ (n i : Nat), l.length - i = n → i ≤ l.length → Ev (fun k => accountingref44_Pairs.l0 k l (prsOf (l.take i)) (i : Int)) (prK l) := by
  intro n
  induction n with
  | zero =>
    intro i hn hi
    refine Ev.step (fun k => accountingref44_Pairs.l0.eq_2 _ _ _ k) ?_
    rw [List.take_of_length_le (by omega)]
    simp only [if_neg (show ¬ ((i : Int) < (l.length : Int)) by omega)]
    rw [prK_prs]
    have := prs_len l
    exact chk_l1 (prsOf l) (by omega) _ 0 rfl (Nat.zero_le _)
  | succ n ih =>
    intro i hn hi
    have hil : i < l.length := by omega
    have hw : wrap64 ((i : Int) + 1) = ((i + 1 : Nat) : Int) := by rw [w64 (by omega) (by omega)]; omega
    have ih := ih (i + 1) (by omega) (by omega)
    have ht : l.take (i + 1) = l.take i ++ [l[i]] := by rw [List.take_add_one, List.getElem?_eq_getElem hil]; rfl
    rw [ht, ← prs_step] at ih
    have hpl := prs_len (l.take i)
    rw [List.length_take] at hpl
    have hpb := prs_bound (l.take i) (by rw [List.length_take]; omega) (fun c hc => hb c (List.mem_of_mem_take hc))
    have hci := hb _ (List.getElem_mem hil)
    have hput : Ev (fun k => accountingref44_put.f k (prsOf (l.take i)) (cpl l[i]).1 (cpl l[i]).2 l[i].f2) (putP ⟨(cpl l[i]).1, (cpl l[i]).2, l[i].f2⟩ (prsOf (l.take i))) :=
      put_ev (prsOf (l.take i)) ⟨(cpl l[i]).1, (cpl l[i]).2, l[i].f2⟩ (by omega) (fun p hp => by have := hpb p hp; unfold i64ok; show _ ≤ p.f2 + l[i].f2 ∧ p.f2 + l[i].f2 ≤ _; omega)
    refine Ev.step (fun k => accountingref44_Pairs.l0.eq_2 _ _ _ k) ?_
    simp only [if_pos (show ((i : Int) < (l.length : Int)) by omega), if_pos (show (0 : Int) ≤ (i : Int) by omega), hw, rd34_at hil]
    by_cases c : Op.bytesLess l[i].f0.f3.toList l[i].f0.f0.toList = true
    · have c1 := (less_iff _ _).1 c
      have c2 : ¬ Op.bytesLess l[i].f0.f0.toList l[i].f0.f3.toList = true := fun h => by
        have := (less_iff _ _).1 h
        have := cmp3_B.sw l[i].f0.f0 l[i].f0.f3
        omega
      have e : cpl l[i] = (l[i].f0.f3, l[i].f0.f0) := by unfold cpl; rw [if_neg c2]
      rw [e] at hput ih
      simp only [if_pos c]
      exact Ev.bind hput ih
    · have e : cpl l[i] = (l[i].f0.f0, l[i].f0.f3) := by
        unfold cpl
        by_cases c2 : Op.bytesLess l[i].f0.f0.toList l[i].f0.f3.toList = true
        · rw [if_pos c2]
        · rw [if_neg c2]
          have h1 : ¬ cmpB l[i].f0.f3 l[i].f0.f0 < 0 := fun h => c ((less_iff _ _).2 h)
          have h2 : ¬ cmpB l[i].f0.f0 l[i].f0.f3 < 0 := fun h => c2 ((less_iff _ _).2 h)
          have := cmp3_B.sw l[i].f0.f0 l[i].f0.f3
          have e := cmpB_zero (show cmpB l[i].f0.f0 l[i].f0.f3 = 0 by omega)
          rw [e]
      rw [e] at hput ih
      simp only [if_neg c]
      exact Ev.bind hput ih
theorem refpairs_ev (m : List ByteArray) (l : List S34) (hl : l.length ≤ 1000) (hm : m.length ≤ 1000000) : Ev (fun k => accountingref44_Pairs.f k l m) (pairsK m l) := by
  unfold accountingref44_Pairs.f accountingref19_Right.f pairsK
  simp only [Option.bind_some]
  by_cases hr : rightB l = true
  · simp only [if_pos hr]
    refine Ev.bind (refinside_ev m l (by omega) hm) ?_
    have := in_le m l
    exact refpairs_l0 (inK m l) (by omega) (bnd_in ((right_iff l).1 hr)) _ 0 rfl (Nat.zero_le _)
  · simp only [if_neg hr]; exact Ev.now _
end Go.Proofs.Ytmflggbpiadkjaa.P
