/- Texts of mine, joined: SpecR, SpecN, SpecU. -/
import Derived.Test.YtinfcbfdeacllaaDoorSpecK
import Derived.Test.YtinfcbfdeacllaaDoorPx23
import Derived.Test.YtinfcbfdeacllaaDoorPx7
import Derived.Test.YtinfcbfdeacllaaDoorPx8
/- The reference of match.Run: it finds what the passes find. -/
namespace Go.Proofs.YtinfcbfdeacllaaDoor.Sp
open Go.RowKit Go.Proofs.YtinfcbfdeacllaaDoor.P Go.Proofs.YtinfcbfdeacllaaDoorW.PrintWords Go.Proofs.YtinfcbfdeacllaaDoorW.PrintLast
set_option linter.unusedVariables false
set_option linter.unusedSimpArgs false
/-! ### The checks -/
theorem is_eq (a : Int) : accountingref04_Is.f a = some (decide (0 ≤ a ∧ a ≤ 109572)) := by
  unfold accountingref04_Is.f
  by_cases h : a ≥ 0
  · rw [if_pos h]; congr 1; simp [h]
  · rw [if_neg h]; congr 1; simp; omega
theorem far_eq (a : Int) : accountingref49_far.f a = some (decide (a > 1000000000000 ∨ a < -1000000000000)) := by
  unfold accountingref49_far.f
  by_cases h : a > 1000000000000
  · rw [if_pos h]; congr 1; simp [h]
  · rw [if_neg h]; congr 1; simp [h]
theorem rcheck_l1 (books : List S52) (hb : books.length ≤ 4000) : ∀ (n i : Nat), books.length - i = n → i ≤ books.length → Ev (fun k => accountingref49_check.l1 k books (i : Int)) (firstOf ((books.drop i).map (fun b => wrongOf b.f1 b.f2))) := by
  intro n
  induction n with
  | zero =>
    intro i hn hi
    refine Ev.step (fun k => accountingref49_check.l1.eq_2 _ _ k) ?_
    simp only [if_neg (show ¬ ((i : Int) < (books.length : Int)) by omega)]
    rw [List.drop_of_length_le (by omega)]
    exact Ev.now _
  | succ n ih =>
    intro i hn hi
    refine Ev.step (fun k => accountingref49_check.l1.eq_2 _ _ k) ?_
    have hw : wrap64 ((i : Int) + 1) = ((i + 1 : Nat) : Int) := by rw [w64 (by omega) (by omega)]; omega
    simp only [if_pos (show ((i : Int) < (books.length : Int)) by omega), if_pos (show (0 : Int) ≤ (i : Int) by omega), hw, is_eq, far_eq, Option.bind_some]
    rw [rd52_drop (show i < books.length by omega), List.map_cons, firstOf_cons]
    by_cases h : 0 ≤ (rd_T52 books (i : Int)).f1 ∧ (rd_T52 books (i : Int)).f1 ≤ 109572
    · simp only [decide_eq_true h, if_true]
      by_cases h2 : (rd_T52 books (i : Int)).f2 > 1000000000000 ∨ (rd_T52 books (i : Int)).f2 < -1000000000000
      · have e : wrongOf (rd_T52 books (i : Int)).f1 (rd_T52 books (i : Int)).f2 = 4 := by unfold wrongOf; rw [if_pos h, if_pos h2]
        simp only [decide_eq_true h2, if_true, e, if_neg (show ¬ (4 : Int) = 0 by decide)]
        exact Ev.now _
      · have e : wrongOf (rd_T52 books (i : Int)).f1 (rd_T52 books (i : Int)).f2 = 0 := by unfold wrongOf; rw [if_pos h, if_neg h2]
        simp only [decide_eq_false h2, Bool.false_eq_true, if_false, e, if_true]
        exact ih (i + 1) (by omega) (by omega)
    · have e : wrongOf (rd_T52 books (i : Int)).f1 (rd_T52 books (i : Int)).f2 = 11 := by unfold wrongOf; rw [if_neg h]
      simp only [decide_eq_false h, Bool.false_eq_true, if_false, e, if_neg (show ¬ (11 : Int) = 0 by decide)]
      exact Ev.now _
theorem rcheck_l0 (lines : List S50) (books : List S52) (hl : lines.length ≤ 200) (hb : books.length ≤ 4000) : ∀ (n i : Nat), lines.length - i = n → i ≤ lines.length → Ev (fun k => accountingref49_check.l0 k lines books (i : Int)) (firstOf ((lines.drop i).map (fun l => wrongOf l.f0 l.f1) ++ books.map (fun b => wrongOf b.f1 b.f2))) := by
  intro n
  induction n with
  | zero =>
    intro i hn hi
    refine Ev.step (fun k => accountingref49_check.l0.eq_2 _ _ _ k) ?_
    simp only [if_neg (show ¬ ((i : Int) < (lines.length : Int)) by omega)]
    rw [List.drop_of_length_le (by omega), List.map_nil, List.nil_append]
    exact rcheck_l1 books hb _ 0 rfl (Nat.zero_le _)
  | succ n ih =>
    intro i hn hi
    refine Ev.step (fun k => accountingref49_check.l0.eq_2 _ _ _ k) ?_
    have hw : wrap64 ((i : Int) + 1) = ((i + 1 : Nat) : Int) := by rw [w64 (by omega) (by omega)]; omega
    simp only [if_pos (show ((i : Int) < (lines.length : Int)) by omega), if_pos (show (0 : Int) ≤ (i : Int) by omega), hw, is_eq, far_eq, Option.bind_some]
    rw [rd50_drop (show i < lines.length by omega), List.map_cons, List.cons_append, firstOf_cons]
    by_cases h : 0 ≤ (rd_T50 lines (i : Int)).f0 ∧ (rd_T50 lines (i : Int)).f0 ≤ 109572
    · simp only [decide_eq_true h, if_true]
      by_cases h2 : (rd_T50 lines (i : Int)).f1 > 1000000000000 ∨ (rd_T50 lines (i : Int)).f1 < -1000000000000
      · have e : wrongOf (rd_T50 lines (i : Int)).f0 (rd_T50 lines (i : Int)).f1 = 4 := by unfold wrongOf; rw [if_pos h, if_pos h2]
        simp only [decide_eq_true h2, if_true, e, if_neg (show ¬ (4 : Int) = 0 by decide)]
        exact Ev.now _
      · have e : wrongOf (rd_T50 lines (i : Int)).f0 (rd_T50 lines (i : Int)).f1 = 0 := by unfold wrongOf; rw [if_pos h, if_neg h2]
        simp only [decide_eq_false h2, Bool.false_eq_true, if_false, e, if_true]
        exact ih (i + 1) (by omega) (by omega)
    · have e : wrongOf (rd_T50 lines (i : Int)).f0 (rd_T50 lines (i : Int)).f1 = 11 := by unfold wrongOf; rw [if_neg h]
      simp only [decide_eq_false h, Bool.false_eq_true, if_false, e, if_neg (show ¬ (11 : Int) = 0 by decide)]
      exact Ev.now _
theorem rcheck_ev (lines : List S50) (books : List S52) (win : Int) : Ev (fun k => accountingref49_check.f k lines books win) (checkOf lines books win) := by
  unfold accountingref49_check.f checkOf
  have j1t : Ev (fun k => accountingref49_check.j1 k lines books true) 9 := Ev.step (fun k => accountingref49_check.j1.eq_2 _ _ _ k) (by simp only [if_true]; exact Ev.now _)
  have j0t : Ev (fun k => accountingref49_check.j0 k lines books true) 3 := Ev.step (fun k => accountingref49_check.j0.eq_2 _ _ _ k) (by simp only [if_true]; exact Ev.now _)
  by_cases h1 : win < 0
  · simp only [if_pos h1, if_pos (Or.inl h1 : win < 0 ∨ win > 366)]; exact j0t
  · simp only [if_neg h1]
    by_cases h2 : win > 366
    · simp only [decide_eq_true h2, if_pos (Or.inr h2 : win < 0 ∨ win > 366)]; exact j0t
    · simp only [decide_eq_false h2, if_neg (show ¬ (win < 0 ∨ win > 366) by omega)]
      refine Ev.step (fun k => accountingref49_check.j0.eq_2 _ _ _ k) ?_
      simp only [Bool.false_eq_true, if_false]
      by_cases h3 : (lines.length : Int) > 200
      · simp only [if_pos h3, if_pos (Or.inl (by omega) : lines.length > 200 ∨ books.length > 4000)]
        exact j1t
      · simp only [if_neg h3]
        by_cases h4 : (books.length : Int) > 4000
        · simp only [decide_eq_true h4, if_pos (Or.inr (by omega) : lines.length > 200 ∨ books.length > 4000)]
          exact j1t
        · simp only [decide_eq_false h4, if_neg (show ¬ (lines.length > 200 ∨ books.length > 4000) by omega)]
          refine Ev.step (fun k => accountingref49_check.j1.eq_2 _ _ _ k) ?_
          simp only [Bool.false_eq_true, if_false]
          exact rcheck_l0 lines books (by omega) (by omega) _ 0 rfl (Nat.zero_le _)

/-! ### What is used -/
theorem rdL6_drop {m : List (List Int)} {i : Nat} (h : i < m.length) : m.drop i = rd_L6 m (i : Int) :: m.drop (i + 1) := by
  rw [show rd_L6 m (i : Int) = m[i] by simp [rd_L6, h], List.drop_eq_getElem_cons h]
theorem rd_drop {r : List Int} {j : Nat} (h : j < r.length) : r.drop j = rd r (j : Int) :: r.drop (j + 1) := by
  rw [show rd r (j : Int) = r[j] by simp [rd, h], List.drop_eq_getElem_cons h]
theorem uses_l1 (m : List (List Int)) (z : Int) (hm : m.length ≤ 1000000) (hr : ∀ r ∈ m, r.length ≤ 1000000) (i : Nat) (hi : i < m.length) (v : Bool) (hnext : Ev (fun k => accountingref49_uses.l0 k m z ((i + 1 : Nat) : Int)) v) :
    ∀ (n j : Nat), (rd_L6 m (i : Int)).length - j = n → j ≤ (rd_L6 m (i : Int)).length → Ev (fun k => accountingref49_uses.l1 k m z (i : Int) (j : Int)) (((rd_L6 m (i : Int)).drop j).contains z || v) := by
  have hrow : (rd_L6 m (i : Int)).length ≤ 1000000 := hr _ (by rw [show rd_L6 m (i : Int) = m[i] by simp [rd_L6, hi]]; exact List.getElem_mem hi)
  intro n
  induction n with
  | zero =>
    intro j hn hj
    refine Ev.step (fun k => accountingref49_uses.l1.eq_2 _ _ _ _ k) ?_
    have hw : wrap64 ((i : Int) + 1) = ((i + 1 : Nat) : Int) := by rw [w64 (by omega) (by omega)]; omega
    simp only [if_pos (show (0 : Int) ≤ (i : Int) by omega), if_pos (show ((i : Int) < (m.length : Int)) by omega), if_neg (show ¬ ((j : Int) < ((rd_L6 m (i : Int)).length : Int)) by omega), hw]
    rw [List.drop_of_length_le (by omega), List.contains_nil, Bool.false_or]
    exact hnext
  | succ n ih =>
    intro j hn hj
    refine Ev.step (fun k => accountingref49_uses.l1.eq_2 _ _ _ _ k) ?_
    have hw : wrap64 ((j : Int) + 1) = ((j + 1 : Nat) : Int) := by rw [w64 (by omega) (by omega)]; omega
    simp only [if_pos (show (0 : Int) ≤ (i : Int) by omega), if_pos (show ((i : Int) < (m.length : Int)) by omega), if_pos (show ((j : Int) < ((rd_L6 m (i : Int)).length : Int)) by omega), if_pos (show (0 : Int) ≤ (j : Int) by omega), hw]
    rw [rd_drop (show j < (rd_L6 m (i : Int)).length by omega), List.contains_cons]
    by_cases e : rd (rd_L6 m (i : Int)) (j : Int) = z
    · simp only [if_pos e]
      have : (z == rd (rd_L6 m (i : Int)) (j : Int)) = true := by rw [e]; simp
      rw [this, Bool.true_or, Bool.true_or]
      exact Ev.now _
    · simp only [if_neg e]
      have : (z == rd (rd_L6 m (i : Int)) (j : Int)) = false := beq_eq_false_iff_ne.mpr (fun h => e h.symm)
      rw [this, Bool.false_or]
      exact ih (j + 1) (by omega) (by omega)
theorem uses_l0 (m : List (List Int)) (z : Int) (hm : m.length ≤ 1000000) (hr : ∀ r ∈ m, r.length ≤ 1000000) : ∀ (n i : Nat), m.length - i = n → i ≤ m.length → Ev (fun k => accountingref49_uses.l0 k m z (i : Int)) ((m.drop i).any (fun r => r.contains z)) := by
  intro n
  induction n with
  | zero =>
    intro i hn hi
    refine Ev.step (fun k => accountingref49_uses.l0.eq_2 _ _ _ k) ?_
    simp only [if_neg (show ¬ ((i : Int) < (m.length : Int)) by omega)]
    rw [List.drop_of_length_le (by omega)]
    exact Ev.now _
  | succ n ih =>
    intro i hn hi
    refine Ev.step (fun k => accountingref49_uses.l0.eq_2 _ _ _ k) ?_
    simp only [if_pos (show ((i : Int) < (m.length : Int)) by omega)]
    rw [rdL6_drop (show i < m.length by omega), List.any_cons]
    exact uses_l1 m z hm hr i (by omega) _ (ih (i + 1) (by omega) (by omega)) _ 0 rfl (Nat.zero_le _)
theorem uses_ev (m : List (List Int)) (z : Int) (hm : m.length ≤ 1000000) (hr : ∀ r ∈ m, r.length ≤ 1000000) : Ev (fun k => accountingref49_uses.f k m z) (m.any (fun r => r.contains z)) := uses_l0 m z hm hr _ 0 rfl (Nat.zero_le _)
/-- The reference's list of matches holds what the passes have found. -/
structure Rel (L n : Nat) (st : List Bool × (Int → List Int)) (m : List (List Int)) : Prop where
  len : m.length = L
  at_ : ∀ i : Nat, i < L → rd_L6 m (i : Int) = st.2 (i : Int)
  out : ∀ j : Int, (∀ i : Nat, i < L → (i : Int) ≠ j) → st.2 j = []
  good : Good n st
  short : ∀ j, (st.2 j).length ≤ 1000000
theorem Rel.uses {L n : Nat} {st : List Bool × (Int → List Int)} {m : List (List Int)} (h : Rel L n st m) (hL : L ≤ 1000000) (z : Int) (hz : 0 ≤ z) : Ev (fun k => accountingref49_uses.f k m z) (rdOf false st.1 z) := by
  have hr : ∀ r ∈ m, r.length ≤ 1000000 := fun r hr => by
    obtain ⟨i, hi, rfl⟩ := List.getElem_of_mem hr
    have := h.at_ i (by rw [← h.len]; exact hi)
    rw [show rd_L6 m (i : Int) = m[i] by simp [rd_L6, hi]] at this
    rw [this]; exact h.short _
  have e : m.any (fun r => r.contains z) = rdOf false st.1 z := by
    rw [Bool.eq_iff_iff, h.good.use z hz, List.any_eq_true]
    constructor
    · rintro ⟨r, hr, hc⟩
      obtain ⟨i, hi, rfl⟩ := List.getElem_of_mem hr
      have := h.at_ i (by rw [← h.len]; exact hi)
      rw [show rd_L6 m (i : Int) = m[i] by simp [rd_L6, hi]] at this
      exact ⟨i, by rw [← this]; simpa using hc⟩
    · rintro ⟨j, hj⟩
      by_cases hex : ∃ i : Nat, i < L ∧ (i : Int) = j
      · obtain ⟨i, hi, rfl⟩ := hex
        have hi' : i < m.length := by rw [h.len]; exact hi
        refine ⟨m[i], List.getElem_mem hi', ?_⟩
        rw [← show rd_L6 m (i : Int) = m[i] by simp [rd_L6, hi'], h.at_ i hi]
        simpa using hj
      · rw [h.out j (fun i hi e => hex ⟨i, hi, e⟩)] at hj
        simp at hj
  rw [← e]
  exact uses_ev m z (by rw [h.len]; exact hL) hr
end Go.Proofs.YtinfcbfdeacllaaDoor.Sp

/- The three searches of the reference, and its Run. -/
namespace Go.Proofs.YtinfcbfdeacllaaDoor.Sp
open Go.RowKit Go.Proofs.YtinfcbfdeacllaaDoor.P Go.Proofs.YtinfcbfdeacllaaDoorW.PrintWords Go.Proofs.YtinfcbfdeacllaaDoorW.PrintLast
set_option linter.unusedVariables false
set_option linter.unusedSimpArgs false
theorem named_l0 (books : List S52) (m : List (List Int)) (l : S50) (u : List Bool) (hb : books.length ≤ 4000) (hu : ∀ z : Int, 0 ≤ z → Ev (fun k => accountingref49_uses.f k m z) (rdOf false u z)) (hE : ¬ l.f2.toList = []) :
    ∀ (n i : Nat), books.length - i = n → i ≤ books.length → Ev (fun k => accountingref49_named.l0 k books m (i : Int) l.f0 l.f1 l.f2 l.f3) (pickOf (((ints books.length).drop i).find? (isNamed books u l))) := by
  have hbE : (l.f2.toList != ([] : List UInt8)) = true := bne_iff_ne.mpr hE
  intro n
  induction n with
  | zero =>
    intro i hn hi
    refine Ev.step (fun k => accountingref49_named.l0.eq_2 _ _ _ _ _ _ _ k) ?_
    simp only [if_neg (show ¬ ((i : Int) < (books.length : Int)) by omega)]
    refine Ev.step (fun k => accountingref49_named.j1.eq_2 _ _ _ _ _ _ _ _ k) ?_
    simp only [Bool.false_eq_true, if_false]
    rw [List.drop_of_length_le (by rw [ints_len]; omega)]
    exact Ev.now _
  | succ n ih =>
    intro i hn hi
    have hw : wrap64 ((i : Int) + 1) = ((i + 1 : Nat) : Int) := by rw [w64 (by omega) (by omega)]; omega
    refine Ev.step (fun k => accountingref49_named.l0.eq_2 _ _ _ _ _ _ _ k) ?_
    simp only [if_pos (show ((i : Int) < (books.length : Int)) by omega), hbE]
    refine Ev.step (fun k => accountingref49_named.j1.eq_2 _ _ _ _ _ _ _ _ k) ?_
    simp only [if_true, if_pos (show (0 : Int) ≤ (i : Int) by omega), if_pos (show ((i : Int) < (books.length : Int)) by omega), hw]
    rw [ints_drop (show i < books.length by omega), List.find?_cons]
    by_cases h1 : (rd_T52 books (i : Int)).f3.toList = l.f2.toList
    · simp only [if_pos h1]
      by_cases h2 : (rd_T52 books (i : Int)).f2 = l.f1
      · simp only [if_pos h2]
        refine (hu (i : Int) (by omega)).bind ?_
        cases h3 : rdOf false u (i : Int)
        · have : isNamed books u l (i : Int) = true := by simp [isNamed, h1, h2, h3]
          simp only [this, Bool.false_eq_true, if_false]
          exact Ev.now _
        · have : isNamed books u l (i : Int) = false := by simp [isNamed, h3]
          simp only [this, if_true]
          exact ih (i + 1) (by omega) (by omega)
      · simp only [if_neg h2]
        have : isNamed books u l (i : Int) = false := by simp [isNamed, h2]
        simp only [this]
        exact ih (i + 1) (by omega) (by omega)
    · simp only [if_neg h1]
      have : isNamed books u l (i : Int) = false := by simp [isNamed, h1]
      simp only [this]
      exact ih (i + 1) (by omega) (by omega)
theorem named_ev (books : List S52) (m : List (List Int)) (l : S50) (u : List Bool) (hb : books.length ≤ 4000) (hu : ∀ z : Int, 0 ≤ z → Ev (fun k => accountingref49_uses.f k m z) (rdOf false u z)) :
    Ev (fun k => accountingref49_named.f k l.f0 l.f1 l.f2 l.f3 books m) (pickA books u l) := by
  rw [pickA_eq]
  unfold accountingref49_named.f
  by_cases hE : l.f2.toList = []
  · rw [if_pos hE]
    have hbE : (l.f2.toList != ([] : List UInt8)) = false := bne_eq_false_iff_eq.mpr hE
    refine Ev.step (fun k => accountingref49_named.l0.eq_2 _ _ _ _ _ _ _ k) ?_
    simp only [hbE]
    split <;> exact Ev.step (fun k => accountingref49_named.j1.eq_2 _ _ _ _ _ _ _ _ k) (by simp only [Bool.false_eq_true, if_false]; exact Ev.now _)
  · rw [if_neg hE]
    exact named_l0 books m l u hb hu hE _ 0 rfl (Nat.zero_le _)

/-! ### near -/
theorem rapart (a b : Int) (ha : 0 ≤ a ∧ a ≤ 109572) (hb : 0 ≤ b ∧ b ≤ 109572) : accountingref49_apart.f a b = some (apt a b) := by
  unfold accountingref49_apart.f apt mx
  rw [w64s (x := a - b) (by omega) (by omega), w64s (x := b - a) (by omega) (by omega)]
  by_cases h : a < b
  · rw [if_pos h, if_pos (by omega)]
  · rw [if_neg h, if_neg (by omega)]
theorem near_l0 (books : List S52) (m : List (List Int)) (l : S50) (u : List Bool) (win : Int) (hw0 : 0 ≤ win ∧ win ≤ 366) (hb : books.length ≤ 4000) (hu : ∀ z : Int, 0 ≤ z → Ev (fun k => accountingref49_uses.f k m z) (rdOf false u z))
    (hl : 0 ≤ l.f0 ∧ l.f0 ≤ 109572) (hbd : ∀ x ∈ books, 0 ≤ x.f1 ∧ x.f1 ≤ 109572) :
    ∀ (n i : Nat), books.length - i = n → i ≤ books.length → Ev (fun k => accountingref49_near.l0 k books m win (nearTo books u win l i).1 (i : Int) l.f0 l.f1 l.f2 l.f3) (pickB books win u l) := by
  intro n
  induction n with
  | zero =>
    intro i hn hi
    obtain rfl : i = books.length := by omega
    refine Ev.step (fun k => accountingref49_near.l0.eq_2 _ _ _ _ _ _ _ _ _ k) ?_
    simp only [if_neg (show ¬ ((books.length : Int) < (books.length : Int)) by omega)]
    unfold pickB pickNear
    by_cases h : (nearTo books u win l books.length).1 < 0
    · simp only [if_pos h]; exact Ev.now _
    · simp only [if_neg h]; exact Ev.now _
  | succ n ih =>
    intro i hn hi
    have hw : wrap64 ((i : Int) + 1) = ((i + 1 : Nat) : Int) := by rw [w64 (by omega) (by omega)]; omega
    have hbi := hbd _ (rd52_mem (show i < books.length by omega))
    have nxt := ih (i + 1) (by omega) (by omega)
    have hst : nearTo books u win l (i + 1) = nearStep books u l (nearTo books u win l i) i := nearTo_succ _ _ _ _ _
    have same : nearStep books u l (nearTo books u win l i) i = nearTo books u win l i → Ev (fun k => accountingref49_near.l0 k books m win (nearTo books u win l i).1 ((i + 1 : Nat) : Int) l.f0 l.f1 l.f2 l.f3) (pickB books win u l) := fun h => by
      rw [hst, h] at nxt; exact nxt
    have new : nearStep books u l (nearTo books u win l i) i = ((i : Int), apt (rd_T52 books (i : Int)).f1 l.f0) → Ev (fun k => accountingref49_near.l0 k books m win (i : Int) ((i + 1 : Nat) : Int) l.f0 l.f1 l.f2 l.f3) (pickB books win u l) := fun h => by
      rw [hst, h] at nxt; exact nxt
    refine Ev.step (fun k => accountingref49_near.l0.eq_2 _ _ _ _ _ _ _ _ _ k) ?_
    simp only [if_pos (show ((i : Int) < (books.length : Int)) by omega), if_pos (show (0 : Int) ≤ (i : Int) by omega), hw, rapart _ _ hbi hl, Option.bind_some]
    by_cases h2 : (rd_T52 books (i : Int)).f2 = l.f1
    · simp only [if_pos h2]
      by_cases h3 : apt (rd_T52 books (i : Int)).f1 l.f0 ≤ win
      · simp only [if_pos h3]
        refine (hu (i : Int) (by omega)).bind ?_
        cases h4 : rdOf false u (i : Int)
        · simp only [Bool.false_eq_true, if_false]
          rcases nearTo_best books u win l hw0 i with ⟨e1, e2⟩ | ⟨⟨r0, r1⟩, e2, e3⟩
          · simp only [if_pos (show (nearTo books u win l i).1 < 0 by omega)]
            refine new ?_
            unfold nearStep
            rw [if_pos]
            simp only [h4, h2, Bool.not_false, beq_self_eq_true, Bool.true_and, decide_eq_true_eq]
            omega
          · simp only [if_neg (show ¬ (nearTo books u win l i).1 < 0 by omega), if_pos r0, if_pos (show (nearTo books u win l i).1 < (books.length : Int) by omega)]
            obtain ⟨b, hbq⟩ : ∃ b : Nat, (nearTo books u win l i).1 = (b : Int) := ⟨(nearTo books u win l i).1.toNat, by omega⟩
            have hbb := hbd _ (rd52_mem (show b < books.length by omega))
            have ea : accountingref49_apart.f (rd_T52 books (nearTo books u win l i).1).f1 l.f0 = some (nearTo books u win l i).2 := by
              rw [e2, hbq]; exact rapart _ _ hbb hl
            simp only [ea, Option.bind_some]
            by_cases h5 : apt (rd_T52 books (i : Int)).f1 l.f0 < (nearTo books u win l i).2
            · simp only [if_pos h5]
              refine new ?_
              unfold nearStep
              rw [if_pos]
              simp only [h4, h2, Bool.not_false, beq_self_eq_true, Bool.true_and, decide_eq_true_eq]
              exact h5
            · simp only [if_neg h5]
              refine same ?_
              unfold nearStep
              rw [if_neg]
              simp only [h4, h2, Bool.not_false, beq_self_eq_true, Bool.true_and, decide_eq_true_eq]
              exact h5
        · simp only [if_true]
          refine same ?_
          unfold nearStep
          rw [if_neg]
          simp [h4]
      · simp only [if_neg h3]
        refine same ?_
        unfold nearStep
        rw [if_neg]
        have : ¬ apt (rd_T52 books (i : Int)).f1 l.f0 < (nearTo books u win l i).2 := by
          rcases nearTo_best books u win l hw0 i with ⟨e1, e2⟩ | ⟨⟨r0, r1⟩, e2, e3⟩ <;> omega
        rw [decide_eq_false this]
        simp
    · simp only [if_neg h2]
      refine same ?_
      unfold nearStep
      rw [if_neg]
      have : ((rd_T52 books (i : Int)).f2 == l.f1) = false := beq_eq_false_iff_ne.mpr h2
      rw [this]
      simp
theorem near_ev (books : List S52) (m : List (List Int)) (l : S50) (u : List Bool) (win : Int) (hw0 : 0 ≤ win ∧ win ≤ 366) (hb : books.length ≤ 4000) (hu : ∀ z : Int, 0 ≤ z → Ev (fun k => accountingref49_uses.f k m z) (rdOf false u z))
    (hl : 0 ≤ l.f0 ∧ l.f0 ≤ 109572) (hbd : ∀ x ∈ books, 0 ≤ x.f1 ∧ x.f1 ≤ 109572) : Ev (fun k => accountingref49_near.f k l.f0 l.f1 l.f2 l.f3 books m win) (pickB books win u l) :=
  near_l0 books m l u win hw0 hb hu hl hbd _ 0 rfl (Nat.zero_le _)

/-! ### several -/
def isOf (books : List S52) (u : List Bool) (l : S50) (z : Int) : Bool := (rd_T52 books z).f3.toList == l.f2.toList && !rdOf false u z
def listOf (books : List S52) (u : List Bool) (l : S50) (i : Nat) : List Int := ((ints books.length).take i).filter (isOf books u l)
theorem listOf_succ (books : List S52) (u : List Bool) (l : S50) (i : Nat) (h : i < books.length) : listOf books u l (i + 1) = listOf books u l i ++ (if isOf books u l (i : Int) = true then [(i : Int)] else []) := by
  unfold listOf
  rw [List.take_add_one, List.filter_append]
  have : (ints books.length)[i]? = some (i : Int) := by simp [ints, h]
  rw [this]
  cases hc : isOf books u l (i : Int) <;> simp [hc]
theorem listOf_len (books : List S52) (u : List Bool) (l : S50) (i : Nat) : (listOf books u l i).length ≤ i := by
  unfold listOf
  have h1 := List.length_filter_le (isOf books u l) ((ints books.length).take i)
  have h2 : ((ints books.length).take i).length ≤ i := by simp; omega
  omega
theorem pickC_eq (books : List S52) (u0 u : List Bool) (l : S50) (hm : ∀ z : Int, 0 ≤ z → rdOf false u0 z = true → rdOf false u z = true) :
    pickC books u0 u l = if l.f2.toList = [] then [] else if (listOf books u l books.length).length < 2 then [] else if gsum books (listOf books u l books.length) = l.f1 then listOf books u l books.length else [] := by
  unfold pickC pickGroup
  by_cases h : l.f2.toList = []
  · rw [if_pos h, if_pos h]
  · rw [if_neg h, if_neg h]
    have e : unusedOf u (refsTo books u0 books.length l.f2) = listOf books u l books.length := by
      unfold unusedOf refsTo listOf
      rw [List.take_of_length_le (by rw [ints_len]; omega)]
      unfold ints
      rw [List.filter_map, List.filter_filter, List.filter_map]
      congr 2
      funext j
      have hb : (l.f2.toList != []) = true := bne_iff_ne.mpr h
      simp only [Function.comp, hb, Bool.and_true, isOf]
      have := hm (j : Int) (by omega)
      cases h1 : rdOf false u0 (j : Int)
      · cases (rd_T52 books (j : Int)).f3.toList == l.f2.toList <;> cases rdOf false u (j : Int) <;> rfl
      · rw [this h1]; cases (rd_T52 books (j : Int)).f3.toList == l.f2.toList <;> rfl
    rw [e]
theorem several_l0 (books : List S52) (m : List (List Int)) (l : S50) (u : List Bool) (hb : books.length ≤ 4000) (hu : ∀ z : Int, 0 ≤ z → Ev (fun k => accountingref49_uses.f k m z) (rdOf false u z)) (hE : ¬ l.f2.toList = []) :
    ∀ (n i : Nat), books.length - i = n → i ≤ books.length → Ev (fun k => accountingref49_several.l0 k books m (listOf books u l i) (gsum books (listOf books u l i)) (i : Int) l.f0 l.f1 l.f2 l.f3) (if (listOf books u l books.length).length < 2 then [] else if gsum books (listOf books u l books.length) = l.f1 then listOf books u l books.length else []) := by
  have hbE : (l.f2.toList != ([] : List UInt8)) = true := bne_iff_ne.mpr hE
  intro n
  induction n with
  | zero =>
    intro i hn hi
    obtain rfl : i = books.length := by omega
    refine Ev.step (fun k => accountingref49_several.l0.eq_2 _ _ _ _ _ _ _ _ _ k) ?_
    simp only [if_neg (show ¬ ((books.length : Int) < (books.length : Int)) by omega)]
    refine Ev.step (fun k => accountingref49_several.j1.eq_2 _ _ _ _ _ _ _ _ _ _ k) ?_
    simp only [Bool.false_eq_true, if_false]
    by_cases h : (listOf books u l books.length).length < 2
    · simp only [if_pos h, if_pos (show ((listOf books u l books.length).length : Int) < 2 by omega)]; exact Ev.now _
    · simp only [if_neg h, if_neg (show ¬ ((listOf books u l books.length).length : Int) < 2 by omega)]
      by_cases h2 : gsum books (listOf books u l books.length) = l.f1
      · simp only [if_pos h2]; exact Ev.now _
      · simp only [if_neg h2]; exact Ev.now _
  | succ n ih =>
    intro i hn hi
    have hw : wrap64 ((i : Int) + 1) = ((i + 1 : Nat) : Int) := by rw [w64 (by omega) (by omega)]; omega
    have nxt := ih (i + 1) (by omega) (by omega)
    rw [listOf_succ books u l i (by omega)] at nxt
    refine Ev.step (fun k => accountingref49_several.l0.eq_2 _ _ _ _ _ _ _ _ _ k) ?_
    simp only [if_pos (show ((i : Int) < (books.length : Int)) by omega), hbE]
    refine Ev.step (fun k => accountingref49_several.j1.eq_2 _ _ _ _ _ _ _ _ _ _ k) ?_
    simp only [if_true, if_pos (show (0 : Int) ≤ (i : Int) by omega), if_pos (show ((i : Int) < (books.length : Int)) by omega), hw]
    by_cases h1 : (rd_T52 books (i : Int)).f3.toList = l.f2.toList
    · simp only [if_pos h1]
      refine (hu (i : Int) (by omega)).bind ?_
      cases h3 : rdOf false u (i : Int)
      · have : isOf books u l (i : Int) = true := by simp [isOf, h1, h3]
        rw [if_pos this, gsum_snoc] at nxt
        have hlen := listOf_len books u l i
        simp only [Bool.false_eq_true, if_false, if_pos (show (listOf books u l i).length < 17592186044416 by omega)]
        exact nxt
      · have : ¬ isOf books u l (i : Int) = true := by simp [isOf, h3]
        rw [if_neg this, List.append_nil] at nxt
        simp only [if_true]
        exact nxt
    · simp only [if_neg h1]
      have : ¬ isOf books u l (i : Int) = true := by simp [isOf, h1]
      rw [if_neg this, List.append_nil] at nxt
      exact nxt
theorem several_ev (books : List S52) (m : List (List Int)) (l : S50) (u0 u : List Bool) (hb : books.length ≤ 4000) (hu : ∀ z : Int, 0 ≤ z → Ev (fun k => accountingref49_uses.f k m z) (rdOf false u z)) (hm : ∀ z : Int, 0 ≤ z → rdOf false u0 z = true → rdOf false u z = true) :
    Ev (fun k => accountingref49_several.f k l.f0 l.f1 l.f2 l.f3 books m) (pickC books u0 u l) := by
  rw [pickC_eq books u0 u l hm]
  unfold accountingref49_several.f
  by_cases hE : l.f2.toList = []
  · rw [if_pos hE]
    have hbE : (l.f2.toList != ([] : List UInt8)) = false := bne_eq_false_iff_eq.mpr hE
    refine Ev.step (fun k => accountingref49_several.l0.eq_2 _ _ _ _ _ _ _ _ _ k) ?_
    simp only [hbE]
    split <;> exact Ev.step (fun k => accountingref49_several.j1.eq_2 _ _ _ _ _ _ _ _ _ _ k) (by simp only [Bool.false_eq_true, if_false, List.length_nil]; exact Ev.now _)
  · rw [if_neg hE]
    exact several_l0 books m l u hb hu hE _ 0 rfl (Nat.zero_le _)
end Go.Proofs.YtinfcbfdeacllaaDoor.Sp

/- The reference's Run comes to what match.Run computes; equal lists of matches are equal. -/
namespace Go.Proofs.YtinfcbfdeacllaaDoor.Sp
open Go.RowKit Go.Proofs.YtinfcbfdeacllaaDoor.P Go.Proofs.YtinfcbfdeacllaaDoorW.PrintWords Go.Proofs.YtinfcbfdeacllaaDoorW.PrintLast
set_option linter.unusedVariables false
set_option linter.unusedSimpArgs false
theorem rdL6_set (m : List (List Int)) (i j : Nat) (p : List Int) (hi : i < m.length) : rd_L6 (m.set i p) (j : Int) = if j = i then p else rd_L6 m (j : Int) := by
  unfold rd_L6
  rw [List.getD_eq_getElem?_getD, List.getD_eq_getElem?_getD, Int.toNat_natCast, List.getElem?_set]
  by_cases e : i = j
  · subst e; simp [hi]
  · rw [if_neg e, if_neg (fun h => e h.symm)]
theorem Rel.step {L n : Nat} {st : List Bool × (Int → List Int)} {m : List (List Int)} (h : Rel L n st m) {pick : List Bool → S50 → List Int} (hp : PickOk n pick) (hlen : ∀ u l, (pick u l).length ≤ 1000000) (lines : List S50) (i : Nat) (hi : i < L) (he : st.2 (i : Int) = []) :
    Rel L n (stepOf pick lines st i) (m.set i (pick st.1 (rd_T50 lines (i : Int)))) := by
  have hst : stepOf pick lines st i = (P.mark st.1 (pick st.1 (rd_T50 lines (i : Int))), upd st.2 (i : Int) (pick st.1 (rd_T50 lines (i : Int)))) := by unfold stepOf; rw [if_pos he]
  have hg := h.good.step hp (lines := lines) i
  refine ⟨by rw [List.length_set]; exact h.len, fun j hj => ?_, fun j hj => ?_, hg, fun j => ?_⟩
  · rw [rdL6_set m i j _ (by rw [h.len]; exact hi), hst]
    show _ = upd _ _ _ (j : Int)
    unfold upd
    by_cases e : j = i
    · subst e; simp
    · rw [if_neg e, if_neg (by omega)]; exact h.at_ j hj
  · rw [hst]
    show upd _ _ _ j = []
    unfold upd
    rw [if_neg (fun e => hj i hi e.symm)]
    exact h.out j hj
  · rw [hst]
    show (upd _ _ _ j).length ≤ _
    unfold upd
    split
    · exact hlen _ _
    · exact h.short j
section
variable (lines : List S50) (books : List S52) (win : Int) (hf : Fine lines books win)
theorem run_l3 (f : Int → List Int) (m : List (List Int)) (L : Nat) (hm : m.length = L) (hL : L ≤ 200) (hat : ∀ i : Nat, i < L → rd_L6 m (i : Int) = f (i : Int)) : ∀ (n i : Nat), L - i = n → i ≤ L → Ev (fun k => accountingref49_Run.l3 k m (outTo f i) (i : Int)) (outTo f L, 0) := by
  intro n
  induction n with
  | zero =>
    intro i hn hi
    obtain rfl : i = L := by omega
    refine Ev.step (fun k => accountingref49_Run.l3.eq_2 _ _ _ k) ?_
    simp only [if_neg (show ¬ ((i : Int) < (m.length : Int)) by omega)]
    exact Ev.now _
  | succ n ih =>
    intro i hn hi
    have hw : wrap64 ((i : Int) + 1) = ((i + 1 : Nat) : Int) := by rw [w64 (by omega) (by omega)]; omega
    have nxt := ih (i + 1) (by omega) (by omega)
    have ho : outTo f (i + 1) = outTo f i ++ (if f (i : Int) = [] then [] else [⟨(i : Int), f (i : Int)⟩]) := rfl
    refine Ev.step (fun k => accountingref49_Run.l3.eq_2 _ _ _ k) ?_
    simp only [if_pos (show ((i : Int) < (m.length : Int)) by omega), if_pos (show (0 : Int) ≤ (i : Int) by omega), hw, hat i (by omega)]
    by_cases h : f (i : Int) = []
    · rw [ho, if_pos h, List.append_nil] at nxt
      simp only [if_neg (show ¬ ((f (i : Int)).length : Int) > 0 by rw [h]; simp)]
      exact nxt
    · rw [ho, if_neg h] at nxt
      have hpos := List.length_pos_iff.2 h
      have hl := outTo_len f i
      simp only [if_pos (show ((f (i : Int)).length : Int) > 0 by omega), if_pos (show (outTo f i).length < 4398046511104 by omega)]
      exact nxt
include hf in
theorem run_l2 (m : List (List Int)) : ∀ (n i : Nat) (m : List (List Int)), lines.length - i = n → i ≤ lines.length → Rel lines.length books.length (passC lines books win i) m → Ev (fun k => accountingref49_Run.l2 k lines books m (i : Int)) (runOf lines books win, 0) := by
  intro n
  induction n with
  | zero =>
    intro i m hn hi hr
    obtain rfl : i = lines.length := by omega
    refine Ev.step (fun k => accountingref49_Run.l2.eq_2 _ _ _ _ k) ?_
    simp only [if_neg (show ¬ ((lines.length : Int) < (lines.length : Int)) by omega)]
    exact run_l3 (passC lines books win lines.length).2 m lines.length hr.len hf.l hr.at_ _ 0 rfl (Nat.zero_le _)
  | succ n ih =>
    intro i m hn hi hr
    have hL := hf.l
    have hw : wrap64 ((i : Int) + 1) = ((i + 1 : Nat) : Int) := by rw [w64 (by omega) (by omega)]; omega
    have hlen := hr.len
    refine Ev.step (fun k => accountingref49_Run.l2.eq_2 _ _ _ _ k) ?_
    simp only [if_pos (show ((i : Int) < (lines.length : Int)) by omega), if_pos (show (0 : Int) ≤ (i : Int) by omega), if_pos (show ((i : Int) < (m.length : Int)) by omega), hw, hr.at_ i (by omega)]
    by_cases h : (passC lines books win i).2 (i : Int) = []
    · simp only [if_pos (show (((passC lines books win i).2 (i : Int)).length : Int) = 0 by rw [h]; rfl)]
      have hmono : ∀ z : Int, 0 ≤ z → rdOf false (passB lines books win lines.length).1 z = true → rdOf false (passC lines books win i).1 z = true := fun z hz hu => by
        obtain ⟨j, hj⟩ := ((goodB lines books win _).use z hz).1 hu
        refine ((goodC lines books win i).use z hz).2 ⟨j, ?_⟩
        show z ∈ (pass _ _ _ i).2 j
        rw [pass_keeps _ _ _ j (fun e => by rw [e] at hj; simp at hj)]
        exact hj
      refine (several_ev books m (rd_T50 lines (i : Int)) (passB lines books win lines.length).1 (passC lines books win i).1 hf.b (fun z hz => hr.uses (by omega) z hz) hmono).bind ?_
      simp only [Int.toNat_natCast]
      exact ih (i + 1) _ (by omega) (by omega) (hr.step (pickC_ok books _) (pickC_len books _ hf.b) lines i (by omega) h)
    · have hpos := List.length_pos_iff.2 h
      simp only [if_neg (show ¬ (((passC lines books win i).2 (i : Int)).length : Int) = 0 by omega)]
      refine ih (i + 1) m (by omega) (by omega) ?_
      show Rel _ _ (stepOf _ _ (passC lines books win i) i) m
      unfold stepOf
      rw [if_neg h]
      exact hr
include hf in
theorem run_l1 : ∀ (n i : Nat) (m : List (List Int)), lines.length - i = n → i ≤ lines.length → Rel lines.length books.length (passB lines books win i) m → Ev (fun k => accountingref49_Run.l1 k lines books win m (i : Int)) (runOf lines books win, 0) := by
  intro n
  induction n with
  | zero =>
    intro i m hn hi hr
    obtain rfl : i = lines.length := by omega
    refine Ev.step (fun k => accountingref49_Run.l1.eq_2 _ _ _ _ _ k) ?_
    simp only [if_neg (show ¬ ((lines.length : Int) < (lines.length : Int)) by omega)]
    exact run_l2 lines books win hf m _ 0 m rfl (Nat.zero_le _) hr
  | succ n ih =>
    intro i m hn hi hr
    have hL := hf.l
    have hw : wrap64 ((i : Int) + 1) = ((i + 1 : Nat) : Int) := by rw [w64 (by omega) (by omega)]; omega
    have hlen := hr.len
    refine Ev.step (fun k => accountingref49_Run.l1.eq_2 _ _ _ _ _ k) ?_
    simp only [if_pos (show ((i : Int) < (lines.length : Int)) by omega), if_pos (show (0 : Int) ≤ (i : Int) by omega), if_pos (show ((i : Int) < (m.length : Int)) by omega), hw, hr.at_ i (by omega)]
    by_cases h : (passB lines books win i).2 (i : Int) = []
    · simp only [if_pos (show (((passB lines books win i).2 (i : Int)).length : Int) = 0 by rw [h]; rfl)]
      refine (near_ev books m (rd_T50 lines (i : Int)) (passB lines books win i).1 win ⟨hf.w0, hf.w1⟩ hf.b (fun z hz => hr.uses (by omega) z hz) (hf.ld _ (rd50_mem (by omega))).1 (fun x hx => (hf.bd x hx).1)).bind ?_
      simp only [Int.toNat_natCast]
      exact ih (i + 1) _ (by omega) (by omega) (hr.step (pickB_ok books win) (pickB_len books win) lines i (by omega) h)
    · have hpos := List.length_pos_iff.2 h
      simp only [if_neg (show ¬ (((passB lines books win i).2 (i : Int)).length : Int) = 0 by omega)]
      refine ih (i + 1) m (by omega) (by omega) ?_
      show Rel _ _ (stepOf (pickB books win) lines (passB lines books win i) i) m
      unfold stepOf
      rw [if_neg h]
      exact hr
include hf in
theorem run_l0 : ∀ (n i : Nat) (m : List (List Int)), lines.length - i = n → i ≤ lines.length → Rel lines.length books.length (passA lines books i) m → Ev (fun k => accountingref49_Run.l0 k lines books win m (i : Int)) (runOf lines books win, 0) := by
  intro n
  induction n with
  | zero =>
    intro i m hn hi hr
    obtain rfl : i = lines.length := by omega
    refine Ev.step (fun k => accountingref49_Run.l0.eq_2 _ _ _ _ _ k) ?_
    simp only [if_neg (show ¬ ((lines.length : Int) < (lines.length : Int)) by omega)]
    exact run_l1 lines books win hf _ 0 m rfl (Nat.zero_le _) hr
  | succ n ih =>
    intro i m hn hi hr
    have hL := hf.l
    have hw : wrap64 ((i : Int) + 1) = ((i + 1 : Nat) : Int) := by rw [w64 (by omega) (by omega)]; omega
    have hlen := hr.len
    have h : (passA lines books i).2 (i : Int) = [] := pass_rest _ _ _ (fun j => rfl) i (i : Int) (Int.le_refl _)
    refine Ev.step (fun k => accountingref49_Run.l0.eq_2 _ _ _ _ _ k) ?_
    simp only [if_pos (show ((i : Int) < (lines.length : Int)) by omega), if_pos (show (0 : Int) ≤ (i : Int) by omega), if_pos (show ((i : Int) < (m.length : Int)) by omega), hw]
    refine (named_ev books m (rd_T50 lines (i : Int)) (passA lines books i).1 hf.b (fun z hz => hr.uses (by omega) z hz)).bind ?_
    simp only [Int.toNat_natCast]
    exact ih (i + 1) _ (by omega) (by omega) (hr.step (pickA_ok books) (pickA_len books) lines i (by omega) h)
end
theorem rrun_ev (lines : List S50) (books : List S52) (win : Int) : Ev (fun k => accountingref49_Run.f k lines books win) (if checkOf lines books win = 0 then runOf lines books win else [], checkOf lines books win) := by
  unfold accountingref49_Run.f
  refine (rcheck_ev lines books win).bind ?_
  by_cases h : checkOf lines books win = 0
  · have hf := (fine_iff lines books win).1 h
    have hl := hf.l
    simp only [if_pos h, if_pos (show (0 : Int) ≤ (lines.length : Int) by omega), Int.toNat_natCast, if_pos (show lines.length ≤ 11728124029610 by omega)]
    rw [h]
    refine run_l0 lines books win hf _ 0 (List.replicate lines.length []) rfl (Nat.zero_le _) ⟨List.length_replicate, fun i hi => ?_, fun j _ => rfl, good_start books, fun j => Nat.zero_le _⟩
    simp [rd_L6, passA, pass, List.getElem?_replicate]
    split <;> rfl
  · simp only [if_neg h]
    exact Ev.now _

/-! ### Equal lists -/
theorem ints_l0 (l : List Int) (hl : l.length ≤ 1000000) : ∀ (n i : Nat), l.length - i = n → i ≤ l.length → Ev (fun k => accountingref49_Ints.l0 k l l (i : Int)) true := by
  intro n
  induction n with
  | zero =>
    intro i hn hi
    refine Ev.step (fun k => accountingref49_Ints.l0.eq_2 _ _ _ k) ?_
    simp only [if_neg (show ¬ ((i : Int) < (l.length : Int)) by omega)]
    exact Ev.now _
  | succ n ih =>
    intro i hn hi
    have hw : wrap64 ((i : Int) + 1) = ((i + 1 : Nat) : Int) := by rw [w64 (by omega) (by omega)]; omega
    refine Ev.step (fun k => accountingref49_Ints.l0.eq_2 _ _ _ k) ?_
    simp only [if_pos (show ((i : Int) < (l.length : Int)) by omega), if_pos (show (0 : Int) ≤ (i : Int) by omega), hw, if_true]
    exact ih (i + 1) (by omega) (by omega)
theorem ints_ev (l : List Int) (hl : l.length ≤ 1000000) : Ev (fun k => accountingref49_Ints.f k l l) true := by
  unfold accountingref49_Ints.f
  simp only [if_true]
  exact ints_l0 l hl _ 0 rfl (Nat.zero_le _)
theorem same_l0 (l : List S54) (hl : l.length ≤ 1000000) (hi : ∀ x ∈ l, x.f1.length ≤ 1000000) : ∀ (n i : Nat), l.length - i = n → i ≤ l.length → Ev (fun k => accountingref49_Same.l0 k l l (i : Int)) true := by
  intro n
  induction n with
  | zero =>
    intro i hn hii
    refine Ev.step (fun k => accountingref49_Same.l0.eq_2 _ _ _ k) ?_
    simp only [if_neg (show ¬ ((i : Int) < (l.length : Int)) by omega)]
    exact Ev.now _
  | succ n ih =>
    intro i hn hii
    have hw : wrap64 ((i : Int) + 1) = ((i + 1 : Nat) : Int) := by rw [w64 (by omega) (by omega)]; omega
    refine Ev.step (fun k => accountingref49_Same.l0.eq_2 _ _ _ k) ?_
    simp only [if_pos (show ((i : Int) < (l.length : Int)) by omega), if_pos (show (0 : Int) ≤ (i : Int) by omega), hw, if_true]
    refine (ints_ev _ (hi _ (rd54_mem (by omega)))).bind ?_
    simp only [if_true]
    exact ih (i + 1) (by omega) (by omega)
theorem same_ev (l : List S54) (hl : l.length ≤ 1000000) (hi : ∀ x ∈ l, x.f1.length ≤ 1000000) : Ev (fun k => accountingref49_Same.f k l l) true := by
  unfold accountingref49_Same.f
  simp only [if_true]
  exact same_l0 l hl hi _ 0 rfl (Nat.zero_le _)
end Go.Proofs.YtinfcbfdeacllaaDoor.Sp
