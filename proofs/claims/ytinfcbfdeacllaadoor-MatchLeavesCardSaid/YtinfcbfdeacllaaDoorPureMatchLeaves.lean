/- The pure statement of the law MatchLeaves. -/
import Derived.Test.YtinfcbfdeacllaaDoorSayMatchLeaves
import Derived.Test.YtinfcbfdeacllaaDoorSpecL
namespace Go.Proofs.YtinfcbfdeacllaaDoor.Pure
open Go.RowKit Go.Proofs.YtinfcbfdeacllaaDoor.P Go.Proofs.YtinfcbfdeacllaaDoor.Op Go.Proofs.YtinfcbfdeacllaaDoorW.PrintWords Go.Proofs.YtinfcbfdeacllaaDoorW.PrintLast Go.Proofs.YtinfcbfdeacllaaDoor.Sp
theorem within_ev (xs : List Int) (n : Int) (hx : xs.length ≤ 1000000) (h : ∀ z ∈ xs, 0 ≤ z ∧ z < n) : Ev (fun k => accountinglaw49_within.f k xs n) true := by
  have key : ∀ (c i : Nat), xs.length - i = c → i ≤ xs.length → Ev (fun k => accountinglaw49_within.l0 k xs n (i : Int)) true := by
    intro c
    induction c with
    | zero =>
      intro i hn hi
      refine Ev.step (fun k => accountinglaw49_within.l0.eq_2 _ _ _ k) ?_
      simp only [if_neg (show ¬ ((i : Int) < (xs.length : Int)) by omega)]
      exact Ev.now _
    | succ c ih =>
      intro i hn hi
      have hw : wrap64 ((i : Int) + 1) = ((i + 1 : Nat) : Int) := by rw [w64 (by omega) (by omega)]; omega
      have hil : i < xs.length := by omega
      have e : rd xs (i : Int) = xs[i] := by simp [rd, hil]
      have hz := h _ (List.getElem_mem hil)
      refine Ev.step (fun k => accountinglaw49_within.l0.eq_2 _ _ _ k) ?_
      simp only [if_pos (show ((i : Int) < (xs.length : Int)) by omega), if_pos (show (0 : Int) ≤ (i : Int) by omega), e, if_neg (show ¬ xs[i] < 0 by omega), if_neg (show ¬ xs[i] ≥ n by omega), hw]
      exact ih (i + 1) (by omega) (by omega)
  exact key _ 0 rfl (Nat.zero_le _)
section
variable (lines : List S50) (books : List S52) (win : Int) (hf : Fine lines books win) (A B : List Int) (hA : A.length ≤ 1000000) (hB : B.length ≤ 1000000) (hAr : ∀ z ∈ A, 0 ≤ z ∧ z < lines.length) (hBr : ∀ z ∈ B, 0 ≤ z ∧ z < books.length)
  (hfar : ∀ a ∈ A, ∀ b ∈ B, (rd_T52 books b).f2 = (rd_T50 lines a).f1 → ¬ apt (rd_T52 books b).f1 (rd_T50 lines a).f0 ≤ win)
include hf hA hB hAr hBr hfar
theorem leaves_l1 (i : Nat) (hi : i < A.length) (hnext : Ev (fun k => accountinglaw49_MatchLeaves.l0 k A B ((i + 1 : Nat) : Int) lines books win) true) : ∀ (c j : Nat), B.length - j = c → j ≤ B.length → Ev (fun k => accountinglaw49_MatchLeaves.l1 k A B (i : Int) (j : Int) lines books win) true := by
  intro c
  induction c with
  | zero =>
    intro j hn hj
    have hw : wrap64 ((i : Int) + 1) = ((i + 1 : Nat) : Int) := by rw [w64 (by omega) (by omega)]; omega
    refine Ev.step (fun k => accountinglaw49_MatchLeaves.l1.eq_2 _ _ _ _ _ _ _ k) ?_
    simp only [if_neg (show ¬ ((j : Int) < (B.length : Int)) by omega), hw]
    exact hnext
  | succ c ih =>
    intro j hn hj
    have hw : wrap64 ((j : Int) + 1) = ((j + 1 : Nat) : Int) := by rw [w64 (by omega) (by omega)]; omega
    have hjl : j < B.length := by omega
    have ea : rd A (i : Int) = A[i] := by simp [rd, hi]
    have eb : rd B (j : Int) = B[j] := by simp [rd, hjl]
    obtain ⟨a, hae⟩ : ∃ a, A[i] = a := ⟨_, rfl⟩
    obtain ⟨b, hbe⟩ : ∃ b, B[j] = b := ⟨_, rfl⟩
    have hza := hAr a (hae ▸ List.getElem_mem hi)
    have hzb := hBr b (hbe ▸ List.getElem_mem hjl)
    have hfr := hfar a (hae ▸ List.getElem_mem hi) b (hbe ▸ List.getElem_mem hjl)
    have hla : (0 ≤ (rd_T50 lines a).f0 ∧ (rd_T50 lines a).f0 ≤ 109572) := by
      have := rd50_mem (lines := lines) (i := a.toNat) (by omega)
      rw [show ((a.toNat : Nat) : Int) = a by omega] at this
      exact (hf.ld _ this).1
    have hlb : (0 ≤ (rd_T52 books b).f1 ∧ (rd_T52 books b).f1 ≤ 109572) := by
      have := rd52_mem (books := books) (i := b.toNat) (by omega)
      rw [show ((b.toNat : Nat) : Int) = b by omega] at this
      exact (hf.bd _ this).1
    have hnx := ih (j + 1) (by omega) (by omega)
    refine Ev.step (fun k => accountinglaw49_MatchLeaves.l1.eq_2 _ _ _ _ _ _ _ k) ?_
    simp only [if_pos (show ((j : Int) < (B.length : Int)) by omega), if_pos (show ((i : Int) < (A.length : Int)) by omega), if_pos (show (0 : Int) ≤ (i : Int) by omega), if_pos (show (0 : Int) ≤ (j : Int) by omega), ea, eb, hae, hbe, if_pos hza.1, if_pos hza.2, if_pos hzb.1, if_pos hzb.2, hw]
    by_cases h1 : (rd_T50 lines a).f1 = (rd_T52 books b).f2
    · have hfr := hfr h1.symm
      rw [apt_range _ _ hlb hla] at hfr
      simp only [if_pos h1, w64s (x := (rd_T50 lines a).f0 - (rd_T52 books b).f1) (by omega) (by omega), w64s (x := -((rd_T50 lines a).f0 - (rd_T52 books b).f1)) (by omega) (by omega)]
      by_cases h2 : (rd_T50 lines a).f0 - (rd_T52 books b).f1 ≤ win
      · simp only [if_pos h2]
        by_cases h3 : -((rd_T50 lines a).f0 - (rd_T52 books b).f1) ≤ win
        · split at hfr <;> omega
        · simp only [if_neg h3]
          exact hnx
      · simp only [if_neg h2]
        exact hnx
    · simp only [if_neg h1]
      exact hnx
theorem leaves_l0 : ∀ (c i : Nat), A.length - i = c → i ≤ A.length → Ev (fun k => accountinglaw49_MatchLeaves.l0 k A B (i : Int) lines books win) true := by
  intro c
  induction c with
  | zero =>
    intro i hn hi
    refine Ev.step (fun k => accountinglaw49_MatchLeaves.l0.eq_2 _ _ _ _ _ _ k) ?_
    simp only [if_neg (show ¬ ((i : Int) < (A.length : Int)) by omega)]
    exact lives_ev.bind (Ev.now _)
  | succ c ih =>
    intro i hn hi
    refine Ev.step (fun k => accountinglaw49_MatchLeaves.l0.eq_2 _ _ _ _ _ _ k) ?_
    simp only [if_pos (show ((i : Int) < (A.length : Int)) by omega)]
    exact leaves_l1 lines books win hf A B hA hB hAr hBr hfar i (by omega) (ih (i + 1) (by omega) (by omega)) _ 0 rfl (Nat.zero_le _)
end
theorem mark_all_get {n : Nat} {p : List Int} (hp : ∀ z ∈ p, 0 ≤ z ∧ z < n) (z : Int) (hz : 0 ≤ z) : rdOf false (P.mark (List.replicate n false) p) z = p.contains z := by
  rw [mark_get _ _ (fun y hy => by rw [List.length_replicate]; exact hp y hy) z hz]
  have : rdOf false (List.replicate n false) z = false := by
    unfold rdOf
    rw [List.getD_eq_getElem?_getD, List.getElem?_replicate]
    split <;> rfl
  rw [this, Bool.false_or]
theorem MatchLeaves : accountinglaw49_MatchLeaves.Pure := by
  intro a0 hfit
  obtain ⟨⟨_, hl⟩, ⟨_, hb⟩, _⟩ := hfit
  refine Ev.rounds ?_
  obtain ⟨b, hbv, hsm⟩ := large_ev a0.f0 a0.f1
  unfold accountinglaw49_MatchLeaves.f
  refine hbv.bind ?_
  cases b
  · obtain ⟨h30, h60⟩ := hsm rfl
    simp only [Bool.false_eq_true, if_false, run_some a0.f0 a0.f1 a0.f2 (fun x hx => (hl x hx).2.2.1) (fun x hx => (hb x hx).2.2.2) (by omega) (by omega), Option.bind_some]
    by_cases hc : checkOf a0.f0 a0.f1 a0.f2 = 0
    · simp only [if_pos hc]
      have hf := (fine_iff _ _ _).1 hc
      have hlen := runOf_len a0.f0 a0.f1 a0.f2
      have hg := goodC a0.f0 a0.f1 a0.f2 a0.f0.length
      have hmem : ∀ x ∈ runOf a0.f0 a0.f1 a0.f2, ∃ i : Nat, i < a0.f0.length ∧ x = ⟨(i : Int), (passC a0.f0 a0.f1 a0.f2 a0.f0.length).2 (i : Int)⟩ ∧ (passC a0.f0 a0.f1 a0.f2 a0.f0.length).2 (i : Int) ≠ [] := fun x hx => outTo_mem hx
      have m0 : ∀ x ∈ runOf a0.f0 a0.f1 a0.f2, 0 ≤ x.f0 ∧ x.f0 < (a0.f0.length : Int) := fun x hx => by
        obtain ⟨i, hi, rfl, _⟩ := hmem x hx
        exact ⟨by show (0 : Int) ≤ (i : Int); omega, by show (i : Int) < _; omega⟩
      have m1 : ∀ x ∈ runOf a0.f0 a0.f1 a0.f2, ∀ z ∈ x.f1, 0 ≤ z ∧ z < (a0.f1.length : Int) := fun x hx => by
        obtain ⟨i, hi, rfl, _⟩ := hmem x hx
        exact fun z hz => hg.rng _ z hz
      refine (rest_ev _ (by omega) (fun x hx => (m0 x hx).1) (fun x hx z hz => (m1 x hx z hz).1) (runOf_short _ _ _ (by omega)) a0.f0 a0.f1 (by omega) (by omega)).bind ?_
      have rA : ∀ z ∈ (restOf a0.f0.length a0.f1.length (runOf a0.f0 a0.f1 a0.f2)).1, (0 ≤ z ∧ z < (a0.f0.length : Int)) ∧ (passC a0.f0 a0.f1 a0.f2 a0.f0.length).2 z = [] := fun z hz => by
        obtain ⟨⟨h1, h2⟩, h3⟩ := unm_mem.1 hz
        rw [mark_len, List.length_replicate] at h2
        refine ⟨⟨h1, h2⟩, ?_⟩
        rw [mark_all_get (n := a0.f0.length) (fun y hy => by obtain ⟨x, hx, rfl⟩ := List.mem_map.1 hy; exact m0 x hx) z h1] at h3
        by_cases hne : (passC a0.f0 a0.f1 a0.f2 a0.f0.length).2 z = []
        · exact hne
        · have : z ∈ (runOf a0.f0 a0.f1 a0.f2).map (·.f0) := by
            refine List.mem_map.2 ⟨⟨z, (passC a0.f0 a0.f1 a0.f2 a0.f0.length).2 z⟩, ?_, rfl⟩
            have := outTo_has (passC a0.f0 a0.f1 a0.f2 a0.f0.length).2 z.toNat (by rw [show ((z.toNat : Nat) : Int) = z by omega]; exact hne) a0.f0.length (by omega)
            rwa [show ((z.toNat : Nat) : Int) = z by omega] at this
          rw [List.contains_iff_mem.2 this] at h3
          cases h3
      have rB : ∀ z ∈ (restOf a0.f0.length a0.f1.length (runOf a0.f0 a0.f1 a0.f2)).2, (0 ≤ z ∧ z < (a0.f1.length : Int)) ∧ rdOf false (passC a0.f0 a0.f1 a0.f2 a0.f0.length).1 z = false := fun z hz => by
        obtain ⟨⟨h1, h2⟩, h3⟩ := unm_mem.1 hz
        rw [mark_len, List.length_replicate] at h2
        refine ⟨⟨h1, h2⟩, ?_⟩
        rw [mark_all_get (n := a0.f1.length) (fun y hy => by obtain ⟨x, hx, hy⟩ := List.mem_flatMap.1 hy; exact m1 x hx y hy) z h1] at h3
        cases hv : rdOf false (passC a0.f0 a0.f1 a0.f2 a0.f0.length).1 z
        · rfl
        · obtain ⟨i, hi⟩ := (hg.use z h1).1 hv
          have hne : (passC a0.f0 a0.f1 a0.f2 a0.f0.length).2 i ≠ [] := fun e => by rw [e] at hi; simp at hi
          have hin : ∃ j : Nat, j < a0.f0.length ∧ (j : Int) = i := by
            apply Classical.byContradiction
            intro hn
            exact hne (outC a0.f0 a0.f1 a0.f2 a0.f0.length (Nat.le_refl _) i (fun j hj e => hn ⟨j, hj, e⟩))
          obtain ⟨j, hj, rfl⟩ := hin
          have : z ∈ (runOf a0.f0 a0.f1 a0.f2).flatMap (·.f1) := List.mem_flatMap.2 ⟨_, outTo_has (passC a0.f0 a0.f1 a0.f2 a0.f0.length).2 j hne a0.f0.length hj, hi⟩
          rw [List.contains_iff_mem.2 this] at h3
          cases h3
      have lA : (restOf a0.f0.length a0.f1.length (runOf a0.f0 a0.f1 a0.f2)).1.length ≤ 1000000 := Nat.le_trans (unm_len _) (by rw [mark_len, List.length_replicate]; omega)
      have lB : (restOf a0.f0.length a0.f1.length (runOf a0.f0 a0.f1 a0.f2)).2.length ≤ 1000000 := Nat.le_trans (unm_len _) (by rw [mark_len, List.length_replicate]; omega)
      refine (within_ev _ _ lA (fun z hz => (rA z hz).1)).bind ?_
      simp only [if_true]
      refine (within_ev _ _ lB (fun z hz => (rB z hz).1)).bind ?_
      simp only [Bool.not_true]
      refine Ev.step (fun k => accountinglaw49_MatchLeaves.j0.eq_2 _ _ _ _ _ _ k) ?_
      simp only [Bool.false_eq_true, if_false]
      refine leaves_l0 a0.f0 a0.f1 a0.f2 hf _ _ lA lB (fun z hz => (rA z hz).1) (fun z hz => (rB z hz).1) (fun a ha b hb => ?_) _ 0 rfl (Nat.zero_le _)
      obtain ⟨⟨a1, a2⟩, a3⟩ := rA a ha
      obtain ⟨⟨b1, b2⟩, b3⟩ := rB b hb
      have := left_far hf a.toNat b.toNat (by omega) (by omega)
      rw [show ((a.toNat : Nat) : Int) = a by omega, show ((b.toNat : Nat) : Int) = b by omega] at this
      exact this a3 b3
    · simp only [if_neg hc]
      exact lives_ev.bind (Ev.now _)
  · simp only [if_true]
    exact lives_ev.bind (Ev.now _)
end Go.Proofs.YtinfcbfdeacllaaDoor.Pure
