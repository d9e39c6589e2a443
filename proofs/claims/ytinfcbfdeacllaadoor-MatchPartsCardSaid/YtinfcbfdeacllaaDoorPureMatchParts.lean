/- The pure statement of the law MatchParts. -/
import Derived.Test.YtinfcbfdeacllaaDoorSayMatchParts
import Derived.Test.YtinfcbfdeacllaaDoorSpecM
namespace Go.Proofs.YtinfcbfdeacllaaDoor.Pure
open Go.RowKit Go.Proofs.YtinfcbfdeacllaaDoor.P Go.Proofs.YtinfcbfdeacllaaDoor.Op Go.Proofs.YtinfcbfdeacllaaDoorW.PrintWords Go.Proofs.YtinfcbfdeacllaaDoorW.PrintLast Go.Proofs.YtinfcbfdeacllaaDoor.Sp
theorem within_ev (xs : List Int) (n : Nat) (hx : xs.length ≤ 1000000) (h : ∀ z ∈ xs, 0 ≤ z ∧ z < n) : Ev (fun k => accountinglaw49_within.f k xs (n : Int)) true := by
  have key : ∀ (c i : Nat), xs.length - i = c → i ≤ xs.length → Ev (fun k => accountinglaw49_within.l0 k xs (n : Int) (i : Int)) true := by
    intro c
    induction c with
    | zero =>
      intro i hn hi
      refine Ev.step (fun k => accountinglaw49_within.l0.eq_2 _ _ _ k) ?_
      simp only [if_neg (show ¬ ((i : Int) < (xs.length : Int)) by omega)]
      exact Ev.now _
    | succ c ih =>
      intro i hn hi
      have hil : i < xs.length := by omega
      have hw : wrap64 ((i : Int) + 1) = ((i + 1 : Nat) : Int) := by rw [w64 (by omega) (by omega)]; omega
      have hz := h _ (List.getElem_mem hil)
      refine Ev.step (fun k => accountinglaw49_within.l0.eq_2 _ _ _ k) ?_
      simp only [if_pos (show ((i : Int) < (xs.length : Int)) by omega), if_pos (show (0 : Int) ≤ (i : Int) by omega), rd_at hil, if_neg (show ¬ xs[i] < 0 by omega), if_neg (show ¬ xs[i] ≥ (n : Int) by omega), hw]
      exact ih (i + 1) (by omega) (by omega)
  exact key _ 0 rfl (Nat.zero_le _)
/-- The numbers of a list, counted: each stands there at most once. -/
def oneOf (n : Nat) (p : List Int) : List Int := (List.range n).map (fun (j : Nat) => if p.contains (j : Int) = true then 1 else 0)
theorem one_len (n : Nat) (p : List Int) : (oneOf n p).length = n := by simp [oneOf]
theorem one_nil (n : Nat) : List.replicate n (0 : Int) = oneOf n [] := by
  refine List.ext_getElem (by simp [oneOf]) (fun i h1 h2 => ?_)
  simp [oneOf]
theorem one_rd (n : Nat) (p : List Int) (z : Int) (hz : 0 ≤ z ∧ z < n) : rd (oneOf n p) z = if p.contains z = true then 1 else 0 := by
  obtain ⟨i, rfl⟩ := Int.eq_ofNat_of_zero_le hz.1
  have hi : i < (oneOf n p).length := by rw [one_len]; omega
  show rd (oneOf n p) (i : Int) = _
  rw [rd_at hi]
  simp [oneOf]
theorem one_inc (n : Nat) (p : List Int) (z : Int) (hz : 0 ≤ z ∧ z < n) (hp : (p ++ [z]).Pairwise (· ≠ ·)) : (oneOf n p).set z.toNat (wrap64 (rd (oneOf n p) z + 1)) = oneOf n (p ++ [z]) := by
  have hn : ¬ z ∈ p := fun hc => (List.pairwise_append.1 hp).2.2 z hc z (by simp) rfl
  have hc : p.contains z = false := by rw [← Bool.not_eq_true, List.contains_iff_mem]; exact hn
  have e : wrap64 (rd (oneOf n p) z + 1) = 1 := by rw [one_rd n p z hz, hc, if_neg (by decide)]; exact w64 (by decide) (by decide)
  rw [e]
  refine List.ext_getElem (by simp [oneOf]) (fun i h1 h2 => ?_)
  have hi : i < n := by rw [one_len] at h2; exact h2
  rw [List.getElem_set]
  by_cases c : z.toNat = i
  · rw [if_pos c]
    have : z = (i : Int) := by omega
    subst this
    simp [oneOf]
  · rw [if_neg c]
    have : ¬ ((i : Int) = z) := by omega
    simp [oneOf, this]
theorem take_pw {xs P : List Int} {j : Nat} (hj : j < xs.length) (h : (P ++ xs).Pairwise (· ≠ ·)) : ((P ++ xs.take j) ++ [rd xs (j : Int)]).Pairwise (· ≠ ·) := by
  have e : (P ++ xs.take j) ++ [rd xs (j : Int)] = P ++ xs.take (j + 1) := by
    rw [List.take_add_one, List.getElem?_eq_getElem hj, rd_at hj, List.append_assoc]
    rfl
  rw [e]
  exact h.sublist (List.Sublist.append_left (List.take_sublist _ _) _)
theorem take_next {xs P : List Int} {j : Nat} (hj : j < xs.length) : (P ++ xs.take j) ++ [rd xs (j : Int)] = P ++ xs.take (j + 1) := by
  rw [List.take_add_one, List.getElem?_eq_getElem hj, rd_at hj, List.append_assoc]
  rfl
section
variable (n nb : Nat)
theorem parts_l5 (S : List Int) (hn : nb ≤ 1000000) (hS : ∀ j : Nat, j < nb → (j : Int) ∈ S) : Ev (fun k => accountinglaw49_MatchParts.l5 k (oneOf nb S) 0) true := by
  have key : ∀ (c i : Nat), nb - i = c → i ≤ nb → Ev (fun k => accountinglaw49_MatchParts.l5 k (oneOf nb S) (i : Int)) true := by
    intro c
    induction c with
    | zero =>
      intro i hc hi
      refine Ev.step (fun k => accountinglaw49_MatchParts.l5.eq_2 _ _ k) ?_
      simp only [one_len, if_neg (show ¬ ((i : Int) < (nb : Int)) by omega)]
      exact lives_ev.bind (Ev.now _)
    | succ c ih =>
      intro i hc hi
      have hw : wrap64 ((i : Int) + 1) = ((i + 1 : Nat) : Int) := by rw [w64 (by omega) (by omega)]; omega
      have e : rd (oneOf nb S) (i : Int) = 1 := by rw [one_rd nb S _ ⟨by omega, by omega⟩, if_pos (List.contains_iff_mem.2 (hS i (by omega)))]
      refine Ev.step (fun k => accountinglaw49_MatchParts.l5.eq_2 _ _ k) ?_
      simp only [one_len, if_pos (show ((i : Int) < (nb : Int)) by omega), if_pos (show (0 : Int) ≤ (i : Int) by omega), e, if_true, hw]
      exact ih (i + 1) (by omega) (by omega)
  exact key _ 0 rfl (Nat.zero_le _)
theorem parts_l4 (A S : List Int) (hn : n ≤ 1000000) (hb : nb ≤ 1000000) (hA : ∀ j : Nat, j < n → (j : Int) ∈ A) (hS : ∀ j : Nat, j < nb → (j : Int) ∈ S) : Ev (fun k => accountinglaw49_MatchParts.l4 k (oneOf n A) (oneOf nb S) 0) true := by
  have key : ∀ (c i : Nat), n - i = c → i ≤ n → Ev (fun k => accountinglaw49_MatchParts.l4 k (oneOf n A) (oneOf nb S) (i : Int)) true := by
    intro c
    induction c with
    | zero =>
      intro i hc hi
      refine Ev.step (fun k => accountinglaw49_MatchParts.l4.eq_2 _ _ _ k) ?_
      simp only [one_len, if_neg (show ¬ ((i : Int) < (n : Int)) by omega)]
      exact parts_l5 nb S hb hS
    | succ c ih =>
      intro i hc hi
      have hw : wrap64 ((i : Int) + 1) = ((i + 1 : Nat) : Int) := by rw [w64 (by omega) (by omega)]; omega
      have e : rd (oneOf n A) (i : Int) = 1 := by rw [one_rd n A _ ⟨by omega, by omega⟩, if_pos (List.contains_iff_mem.2 (hA i (by omega)))]
      refine Ev.step (fun k => accountinglaw49_MatchParts.l4.eq_2 _ _ _ k) ?_
      simp only [one_len, if_pos (show ((i : Int) < (n : Int)) by omega), if_pos (show (0 : Int) ≤ (i : Int) by omega), e, if_true, hw]
      exact ih (i + 1) (by omega) (by omega)
  exact key _ 0 rfl (Nat.zero_le _)
theorem parts_l3 (hn : n ≤ 1000000) (hb : nb ≤ 1000000) (P a Q b : List Int) (hbl : b.length ≤ 1000000) (hPa : ∀ j : Nat, j < n → (j : Int) ∈ P ++ a) (hQ : (Q ++ b).Pairwise (· ≠ ·)) (hQr : ∀ z ∈ Q ++ b, 0 ≤ z ∧ z < nb) (hQa : ∀ j : Nat, j < nb → (j : Int) ∈ Q ++ b) : Ev (fun k => accountinglaw49_MatchParts.l3 k b (oneOf n (P ++ a)) (oneOf nb Q) 0) true := by
  have key : ∀ (c i : Nat), b.length - i = c → i ≤ b.length → Ev (fun k => accountinglaw49_MatchParts.l3 k b (oneOf n (P ++ a)) (oneOf nb (Q ++ b.take i)) (i : Int)) true := by
    intro c
    induction c with
    | zero =>
      intro i hc hi
      refine Ev.step (fun k => accountinglaw49_MatchParts.l3.eq_2 _ _ _ _ k) ?_
      simp only [if_neg (show ¬ ((i : Int) < (b.length : Int)) by omega)]
      rw [List.take_of_length_le (by omega)]
      exact parts_l4 n nb (P ++ a) (Q ++ b) hn hb hPa hQa
    | succ c ih =>
      intro i hc hi
      have hil : i < b.length := by omega
      have hw : wrap64 ((i : Int) + 1) = ((i + 1 : Nat) : Int) := by rw [w64 (by omega) (by omega)]; omega
      have hz : 0 ≤ rd b (i : Int) ∧ rd b (i : Int) < nb := hQr _ (List.mem_append_right _ (by rw [rd_at hil]; exact List.getElem_mem hil))
      refine Ev.step (fun k => accountinglaw49_MatchParts.l3.eq_2 _ _ _ _ k) ?_
      simp only [one_len, if_pos (show ((i : Int) < (b.length : Int)) by omega), if_pos (show (0 : Int) ≤ (i : Int) by omega), if_pos hz.1, if_pos hz.2, hw, one_inc nb _ _ hz (take_pw hil hQ), take_next hil]
      exact ih (i + 1) (by omega) (by omega)
  have := key _ 0 rfl (Nat.zero_le _)
  rw [List.take_zero, List.append_nil] at this
  exact this
variable (hn : n ≤ 1000000) (hb : nb ≤ 1000000) (P a Q b : List Int) (ha : a.length ≤ 1000000) (hbl : b.length ≤ 1000000)
  (hP : (P ++ a).Pairwise (· ≠ ·)) (hPr : ∀ z ∈ P ++ a, 0 ≤ z ∧ z < n) (hPa : ∀ j : Nat, j < n → (j : Int) ∈ P ++ a)
  (hQ : (Q ++ b).Pairwise (· ≠ ·)) (hQr : ∀ z ∈ Q ++ b, 0 ≤ z ∧ z < nb) (hQa : ∀ j : Nat, j < nb → (j : Int) ∈ Q ++ b)
include hn hb ha hbl hP hPr hPa hQ hQr hQa
theorem parts_l2 : Ev (fun k => accountinglaw49_MatchParts.l2 k a b (oneOf n P) (oneOf nb Q) 0) true := by
  have key : ∀ (c i : Nat), a.length - i = c → i ≤ a.length → Ev (fun k => accountinglaw49_MatchParts.l2 k a b (oneOf n (P ++ a.take i)) (oneOf nb Q) (i : Int)) true := by
    intro c
    induction c with
    | zero =>
      intro i hc hi
      refine Ev.step (fun k => accountinglaw49_MatchParts.l2.eq_2 _ _ _ _ _ k) ?_
      simp only [if_neg (show ¬ ((i : Int) < (a.length : Int)) by omega)]
      rw [List.take_of_length_le (by omega)]
      exact parts_l3 n nb hn hb P a Q b hbl hPa hQ hQr hQa
    | succ c ih =>
      intro i hc hi
      have hil : i < a.length := by omega
      have hw : wrap64 ((i : Int) + 1) = ((i + 1 : Nat) : Int) := by rw [w64 (by omega) (by omega)]; omega
      have hz : 0 ≤ rd a (i : Int) ∧ rd a (i : Int) < n := hPr _ (List.mem_append_right _ (by rw [rd_at hil]; exact List.getElem_mem hil))
      refine Ev.step (fun k => accountinglaw49_MatchParts.l2.eq_2 _ _ _ _ _ k) ?_
      simp only [one_len, if_pos (show ((i : Int) < (a.length : Int)) by omega), if_pos (show (0 : Int) ≤ (i : Int) by omega), if_pos hz.1, if_pos hz.2, hw, one_inc n _ _ hz (take_pw hil hP), take_next hil]
      exact ih (i + 1) (by omega) (by omega)
  have := key _ 0 rfl (Nat.zero_le _)
  rw [List.take_zero, List.append_nil] at this
  exact this
end
theorem flat_step {m : List S54} {i : Nat} (h : i < m.length) : (m.take (i + 1)).flatMap (·.f1) = (m.take i).flatMap (·.f1) ++ (rd_T54 m (i : Int)).f1 := by
  rw [List.take_add_one, List.getElem?_eq_getElem h, rd54_at h, List.flatMap_append]
  simp
theorem map_step {m : List S54} {i : Nat} (h : i < m.length) : (m.take (i + 1)).map (·.f0) = (m.take i).map (·.f0) ++ [(rd_T54 m (i : Int)).f0] := by
  rw [List.take_add_one, List.getElem?_eq_getElem h, rd54_at h, List.map_append]
  rfl
theorem flat_pre (m : List S54) (i : Nat) : ((m.take i).flatMap (·.f1)).Sublist (m.flatMap (·.f1)) := by
  have : m.flatMap (·.f1) = (m.take i).flatMap (·.f1) ++ (m.drop i).flatMap (·.f1) := by rw [← List.flatMap_append, List.take_append_drop]
  rw [this]
  exact List.sublist_append_left _ _
theorem parts_l1 (m : List S54) (a b : List Int) (n nb : Nat) (hm : m.length ≤ 1000000) (hrow : ∀ x ∈ m, x.f1.length ≤ 1000000) (hQ : (m.flatMap (·.f1) ++ b).Pairwise (· ≠ ·)) (hQr : ∀ z ∈ m.flatMap (·.f1) ++ b, 0 ≤ z ∧ z < nb) (i : Nat) (hi : i < m.length) (hnext : Ev (fun k => accountinglaw49_MatchParts.l0 k m a b (oneOf n ((m.take (i + 1)).map (·.f0))) (oneOf nb ((m.take (i + 1)).flatMap (·.f1))) ((i + 1 : Nat) : Int)) true) :
    ∀ (c j : Nat), (rd_T54 m (i : Int)).f1.length - j = c → j ≤ (rd_T54 m (i : Int)).f1.length → Ev (fun k => accountinglaw49_MatchParts.l1 k m a b (oneOf n ((m.take (i + 1)).map (·.f0))) (oneOf nb ((m.take i).flatMap (·.f1) ++ (rd_T54 m (i : Int)).f1.take j)) (i : Int) (j : Int)) true := by
  have hr := hrow _ (rd54_mem hi)
  have hsub : ((m.take i).flatMap (·.f1) ++ (rd_T54 m (i : Int)).f1).Sublist (m.flatMap (·.f1) ++ b) := by
    rw [← flat_step hi]
    exact (flat_pre m (i + 1)).trans (List.sublist_append_left _ _)
  have hw0 : wrap64 ((i : Int) + 1) = ((i + 1 : Nat) : Int) := by rw [w64 (by omega) (by omega)]; omega
  intro c
  induction c with
  | zero =>
    intro j hc hj
    refine Ev.step (fun k => accountinglaw49_MatchParts.l1.eq_2 _ _ _ _ _ _ _ k) ?_
    simp only [if_pos (show (0 : Int) ≤ (i : Int) by omega), if_pos (show ((i : Int) < (m.length : Int)) by omega), if_neg (show ¬ ((j : Int) < ((rd_T54 m (i : Int)).f1.length : Int)) by omega), hw0]
    rw [show (rd_T54 m (i : Int)).f1.take j = (rd_T54 m (i : Int)).f1 from List.take_of_length_le (by omega), ← flat_step hi]
    exact hnext
  | succ c ih =>
    intro j hc hj
    have hjl : j < (rd_T54 m (i : Int)).f1.length := by omega
    have c1 : (0 : Int) ≤ (i : Int) := by omega
    have c2 : (i : Int) < (m.length : Int) := by omega
    have c3 : (j : Int) < ((rd_T54 m (i : Int)).f1.length : Int) := by omega
    have c4 : (0 : Int) ≤ (j : Int) := by omega
    have c5 : (rd_T54 m (i : Int)).f1.length - (j + 1) = c := by omega
    have c6 : j + 1 ≤ (rd_T54 m (i : Int)).f1.length := by omega
    have hw : wrap64 ((j : Int) + 1) = ((j + 1 : Nat) : Int) := by rw [w64 (by omega) (by omega)]; omega
    have hz : 0 ≤ rd (rd_T54 m (i : Int)).f1 (j : Int) ∧ rd (rd_T54 m (i : Int)).f1 (j : Int) < nb := hQr _ (hsub.subset (List.mem_append_right _ (by rw [rd_at hjl]; exact List.getElem_mem hjl)))
    refine Ev.step (fun k => accountinglaw49_MatchParts.l1.eq_2 _ _ _ _ _ _ _ k) ?_
    simp only [one_len, if_pos c1, if_pos c2, if_pos c3, if_pos c4, if_pos hz.1, if_pos hz.2, hw, one_inc nb _ _ hz (take_pw hjl (hQ.sublist hsub)), take_next hjl]
    exact ih (j + 1) c5 c6
section
variable (m : List S54) (a b : List Int) (n nb : Nat) (hm : m.length ≤ 1000000) (hn : n ≤ 1000000) (hb : nb ≤ 1000000) (ha : a.length ≤ 1000000) (hbl : b.length ≤ 1000000) (hrow : ∀ x ∈ m, x.f1.length ≤ 1000000)
  (hP : (m.map (·.f0) ++ a).Pairwise (· ≠ ·)) (hPr : ∀ z ∈ m.map (·.f0) ++ a, 0 ≤ z ∧ z < n) (hPa : ∀ j : Nat, j < n → (j : Int) ∈ m.map (·.f0) ++ a)
  (hQ : (m.flatMap (·.f1) ++ b).Pairwise (· ≠ ·)) (hQr : ∀ z ∈ m.flatMap (·.f1) ++ b, 0 ≤ z ∧ z < nb) (hQa : ∀ j : Nat, j < nb → (j : Int) ∈ m.flatMap (·.f1) ++ b)
include hm hn hb ha hbl hrow hP hPr hPa hQ hQr hQa
theorem parts_l0 : ∀ (c i : Nat), m.length - i = c → i ≤ m.length → Ev (fun k => accountinglaw49_MatchParts.l0 k m a b (oneOf n ((m.take i).map (·.f0))) (oneOf nb ((m.take i).flatMap (·.f1))) (i : Int)) true := by
  intro c
  induction c with
  | zero =>
    intro i hc hi
    refine Ev.step (fun k => accountinglaw49_MatchParts.l0.eq_2 _ _ _ _ _ _ k) ?_
    simp only [if_neg (show ¬ ((i : Int) < (m.length : Int)) by omega)]
    rw [List.take_of_length_le (by omega)]
    exact parts_l2 n nb hn hb _ a _ b ha hbl hP hPr hPa hQ hQr hQa
  | succ c ih =>
    intro i hc hi
    have hil : i < m.length := by omega
    have hsub : ((m.take i).map (·.f0) ++ [(rd_T54 m (i : Int)).f0]).Sublist (m.map (·.f0) ++ a) := by
      rw [← map_step hil]
      exact ((List.take_sublist _ _).map _).trans (List.sublist_append_left _ _)
    have hz : 0 ≤ (rd_T54 m (i : Int)).f0 ∧ (rd_T54 m (i : Int)).f0 < n := hPr _ (hsub.subset (List.mem_append_right _ (by simp)))
    refine Ev.step (fun k => accountinglaw49_MatchParts.l0.eq_2 _ _ _ _ _ _ k) ?_
    simp only [one_len, if_pos (show ((i : Int) < (m.length : Int)) by omega), if_pos (show (0 : Int) ≤ (i : Int) by omega), if_pos hz.1, if_pos hz.2, one_inc n _ _ hz (hP.sublist hsub), ← map_step hil]
    have := parts_l1 m a b n nb hm hrow hQ hQr i hil (ih (i + 1) (by omega) (by omega)) _ 0 rfl (Nat.zero_le _)
    rw [List.take_zero, List.append_nil] at this
    exact this
end
theorem left_mem {n : Nat} {p : List Int} {z : Int} : z ∈ Sp.leftOf n p ↔ (0 ≤ z ∧ z < n) ∧ z ∉ p := by
  unfold Sp.leftOf
  rw [List.mem_map]
  constructor
  · rintro ⟨j, hj, rfl⟩
    rw [List.mem_filter, List.mem_range, Bool.not_eq_true', ← Bool.not_eq_true, List.contains_iff_mem] at hj
    exact ⟨by omega, hj.2⟩
  · rintro ⟨⟨h0, h1⟩, h2⟩
    refine ⟨z.toNat, ?_, by omega⟩
    rw [List.mem_filter, List.mem_range, Bool.not_eq_true', ← Bool.not_eq_true, List.contains_iff_mem]
    exact ⟨by omega, by rw [show (z.toNat : Int) = z by omega]; exact h2⟩
theorem left_pw (n : Nat) (p : List Int) (hp : p.Pairwise (· ≠ ·)) : (p ++ Sp.leftOf n p).Pairwise (· ≠ ·) := by
  rw [List.pairwise_append]
  refine ⟨hp, ?_, fun x hx y hy e => (left_mem.1 hy).2 (e ▸ hx)⟩
  unfold Sp.leftOf
  exact List.Pairwise.map _ (fun x y h => by omega) (List.Pairwise.filter _ (List.pairwise_lt_range.imp (fun h => Nat.ne_of_lt h)))
theorem left_all (n : Nat) (p : List Int) (j : Nat) (hj : j < n) : (j : Int) ∈ p ++ Sp.leftOf n p := by
  rw [List.mem_append]
  by_cases h : (j : Int) ∈ p
  · exact .inl h
  · exact .inr (left_mem.2 ⟨by omega, h⟩)
theorem MatchParts : accountinglaw49_MatchParts.Pure := by
  intro a0 hfit
  obtain ⟨⟨_, hl⟩, ⟨_, hb⟩, _⟩ := hfit
  refine Ev.rounds ?_
  obtain ⟨b, hbv, hsm⟩ := large_ev a0.f0 a0.f1
  unfold accountinglaw49_MatchParts.f
  refine hbv.bind ?_
  cases b
  · obtain ⟨h30, h60⟩ := hsm rfl
    have hok : ∀ x ∈ a0.f1, i64ok x.f2 := fun x hx => wf_range (hb x hx).2.2.1
    simp only [Bool.false_eq_true, if_false, run_some a0.f0 a0.f1 a0.f2 (fun x hx => (hl x hx).2.2.1) (fun x hx => (hb x hx).2.2.2) (by omega) (by omega), Option.bind_some]
    by_cases hc : checkOf a0.f0 a0.f1 a0.f2 = 0
    · simp only [if_pos hc]
      have hlen := runOf_len a0.f0 a0.f1 a0.f2
      have hshort := runOf_short a0.f0 a0.f1 a0.f2 (by omega)
      have hR := run_right ((fine_iff _ _ _).1 hc)
      generalize hm : runOf a0.f0 a0.f1 a0.f2 = m at *
      have hj := (right_iff a0.f0 a0.f1 m).1 hR
      have hap := okJ_apart a0.f0 a0.f1 m hj
      have hone : ∀ x ∈ m, OneOk a0.f0 a0.f1 x := fun x hx => by
        obtain ⟨i, hi, rfl⟩ := List.mem_iff_getElem.1 hx
        have := (hj i hi).1
        rw [rd54_at hi] at this
        exact this
      have hs : ∀ x ∈ m, x.f1.length ≤ 9223372036854775807 := fun x hx => Nat.le_trans (hshort x hx) (by omega)
      refine (restS_ev m (by omega) hs a0.f0 a0.f1 (by omega) (by omega)).bind ?_
      have hr := right_ev a0.f0 a0.f1 m (by omega) hok (by omega) hs
      rw [hR] at hr
      refine hr.bind ?_
      simp only [if_true]
      have l1 : (Sp.leftOf a0.f0.length (m.map (·.f0))).length ≤ 1000000 := Nat.le_trans (Sp.leftOf_len _ _) (by omega)
      have l2 : (Sp.leftOf a0.f1.length (m.flatMap (·.f1))).length ≤ 1000000 := Nat.le_trans (Sp.leftOf_len _ _) (by omega)
      refine (within_ev _ a0.f0.length l1 (fun z hz => (left_mem.1 hz).1)).bind ?_
      simp only [if_true]
      refine (within_ev _ a0.f1.length l2 (fun z hz => (left_mem.1 hz).1)).bind ?_
      refine Ev.step (fun k => accountinglaw49_MatchParts.j0.eq_2 _ _ _ _ _ _ _ k) ?_
      simp only [Bool.not_true, Bool.false_eq_true, if_false, Int.toNat_natCast, if_pos (show (0 : Int) ≤ (a0.f0.length : Int) by omega), if_pos (show (0 : Int) ≤ (a0.f1.length : Int) by omega), if_pos (show a0.f0.length ≤ 35184372088832 by omega), if_pos (show a0.f1.length ≤ 35184372088832 by omega), one_nil]
      have hp1 : (m.map (·.f0)).Pairwise (· ≠ ·) := List.Pairwise.map _ (fun x y h => by have := h.1; omega) hap
      have hp2 : (m.flatMap (·.f1)).Pairwise (· ≠ ·) := by
        rw [List.pairwise_flatMap]
        exact ⟨fun x hx => (hone x hx).2.2.1.imp (fun h => by omega), hap.imp (by intro p q h x hx y hy e; subst e; exact h.2 x hx hy)⟩
      exact parts_l0 m _ _ a0.f0.length a0.f1.length (by omega) (by omega) (by omega) l1 l2 hshort (left_pw _ _ hp1)
        (fun z hz => by
          rcases List.mem_append.1 hz with hz | hz
          · obtain ⟨x, hx, rfl⟩ := List.mem_map.1 hz
            exact (hone x hx).1
          · exact (left_mem.1 hz).1)
        (left_all _ _) (left_pw _ _ hp2)
        (fun z hz => by
          rcases List.mem_append.1 hz with hz | hz
          · obtain ⟨x, hx, hz⟩ := List.mem_flatMap.1 hz
            exact (hone x hx).2.2.2.1 z hz
          · exact (left_mem.1 hz).1)
        (left_all _ _) _ 0 rfl (Nat.zero_le _)
    · simp only [if_neg hc]
      exact lives_ev.bind (Ev.now _)
  · simp only [if_true]
    exact lives_ev.bind (Ev.now _)
end Go.Proofs.YtinfcbfdeacllaaDoor.Pure
