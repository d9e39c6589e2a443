/- The pure statement of the law MatchMany. -/
import Derived.Test.YtinfcbfdeacllaaDoorSayMatchMany
import Derived.Test.YtinfcbfdeacllaaDoorSpecK
namespace Go.Proofs.YtinfcbfdeacllaaDoor.Pure
open Go.RowKit Go.Proofs.YtinfcbfdeacllaaDoor.P Go.Proofs.YtinfcbfdeacllaaDoor.Op Go.Proofs.YtinfcbfdeacllaaDoorW.PrintWords Go.Proofs.YtinfcbfdeacllaaDoorW.PrintLast Go.Proofs.YtinfcbfdeacllaaDoor.Sp
theorem z50_at (L : Nat) (i : Int) : rd_T50 (List.replicate L z50) i = z50 := by
  unfold rd_T50
  rw [List.getD_eq_getElem?_getD, List.getElem?_replicate]
  split <;> rfl
theorem z52_at (L : Nat) (i : Int) : rd_T52 (List.replicate L z52) i = z52 := by
  unfold rd_T52
  rw [List.getD_eq_getElem?_getD, List.getElem?_replicate]
  split <;> rfl
theorem pass_none (pick : List Bool → S50 → List Int) (lines : List S50) (hp : ∀ (u : List Bool) (i : Nat), pick u (rd_T50 lines (i : Int)) = []) (st : List Bool × (Int → List Int)) : ∀ k : Nat, (pass pick lines st k).1 = st.1 ∧ ∀ j, (pass pick lines st k).2 j = st.2 j
  | 0 => ⟨rfl, fun _ => rfl⟩
  | k + 1 => by
    obtain ⟨h1, h2⟩ := pass_none pick lines hp st k
    show (stepOf pick lines (pass pick lines st k) k).1 = _ ∧ ∀ j, (stepOf pick lines (pass pick lines st k) k).2 j = _
    unfold stepOf
    split
    · rename_i he
      rw [hp]
      refine ⟨h1, fun j => ?_⟩
      show upd _ _ [] j = _
      unfold upd
      split
      · rename_i e
        rw [e, ← h2, he]
      · exact h2 j
    · exact ⟨h1, h2⟩
theorem z50_ref : z50.f2.toList = [] := by
  show ByteArray.toList.loop z50.f2 0 [] = []
  rw [ByteArray.toList.loop]
  rfl
theorem pickA_z (books : List S52) (u : List Bool) : pickA books u z50 = [] := by unfold pickA pickSame; rw [if_pos z50_ref]
theorem pickC_z (books : List S52) (u0 u : List Bool) : pickC books u0 u z50 = [] := by unfold pickC pickGroup; rw [if_pos z50_ref]
section
variable (L n : Nat) (win : Int) (hw : 0 ≤ win ∧ win ≤ 366)
include hw
theorem near_many (u : List Bool) (i : Nat) (hu : ∀ z : Nat, rdOf false u (z : Int) = decide (z < i ∧ z < n)) : ∀ k : Nat, k ≤ n → nearTo (List.replicate n z52) u win z50 k = if k ≤ i then (-1, win + 1) else ((i : Int), 0)
  | 0, _ => by
    rw [if_pos (Nat.zero_le _)]
    show ((-1 : Int), wrap64 (win + 1)) = _
    rw [w64 (by omega) (by omega)]
  | k + 1, hk => by
    rw [nearTo_succ, near_many u i hu k (by omega)]
    unfold nearStep
    rw [z52_at, hu k]
    have e1 : z52.f2 = z50.f1 := rfl
    have e2 : apt z52.f1 z50.f0 = 0 := by show apt 0 0 = 0; rw [apt_range 0 0 (by omega) (by omega)]; rfl
    rw [e1, e2]
    by_cases h1 : k < i
    · rw [decide_eq_true (show k < i ∧ k < n from ⟨h1, by omega⟩), if_pos (show k + 1 ≤ i by omega), if_pos (show k ≤ i by omega)]
      simp
    · rw [decide_eq_false (show ¬ (k < i ∧ k < n) by omega), if_neg (show ¬ k + 1 ≤ i by omega)]
      by_cases h2 : k = i
      · subst h2
        rw [if_pos (Nat.le_refl _)]
        simp
        omega
      · rw [if_neg (show ¬ k ≤ i by omega)]
        simp
theorem pickB_many (u : List Bool) (i : Nat) (hu : ∀ z : Nat, rdOf false u (z : Int) = decide (z < i ∧ z < n)) : pickB (List.replicate n z52) win u z50 = if i < n then [(i : Int)] else [] := by
  unfold pickB pickNear
  rw [List.length_replicate, near_many n win hw u i hu n (Nat.le_refl _)]
  by_cases h : i < n
  · rw [if_neg (show ¬ n ≤ i by omega), if_pos h, if_neg (show ¬ (i : Int) < 0 by omega)]
  · rw [if_pos (show n ≤ i by omega), if_neg h, if_pos (show (-1 : Int) < 0 by omega)]
theorem passB_many : ∀ i : Nat, (passB (List.replicate L z50) (List.replicate n z52) win i).1.length = n ∧ (∀ z : Nat, rdOf false (passB (List.replicate L z50) (List.replicate n z52) win i).1 (z : Int) = decide (z < i ∧ z < n)) ∧ (∀ j : Nat, (passB (List.replicate L z50) (List.replicate n z52) win i).2 (j : Int) = if j < i ∧ j < n then [(j : Int)] else [])
  | 0 => by
    obtain ⟨h1, h2⟩ := pass_none (pickA (List.replicate n z52)) (List.replicate L z50) (fun u i => by rw [z50_at]; exact pickA_z _ _) (noneUsed (List.replicate n z52), fun _ => []) (List.replicate L z50).length
    have h1 : (passB (List.replicate L z50) (List.replicate n z52) win 0).1 = noneUsed (List.replicate n z52) := h1
    have h2 : ∀ j, (passB (List.replicate L z50) (List.replicate n z52) win 0).2 j = [] := h2
    refine ⟨by rw [h1]; simp [noneUsed], fun z => ?_, fun j => ?_⟩
    · rw [h1, none_get, decide_eq_false (by omega)]
    · rw [h2, if_neg (by omega)]
  | i + 1 => by
    obtain ⟨h1, h2, h3⟩ := passB_many i
    have hp := pickB_many n win hw (passB (List.replicate L z50) (List.replicate n z52) win i).1 i h2
    obtain ⟨st, hst⟩ : ∃ st, passB (List.replicate L z50) (List.replicate n z52) win i = st := ⟨_, rfl⟩
    have hs : passB (List.replicate L z50) (List.replicate n z52) win (i + 1) = stepOf (pickB (List.replicate n z52) win) (List.replicate L z50) st i := by rw [← hst]; rfl
    rw [hst] at h1 h2 h3 hp
    rw [hs]
    unfold stepOf
    rw [if_pos (by rw [h3, if_neg (by omega)]), z50_at, hp]
    by_cases hi : i < n
    · rw [if_pos hi]
      refine ⟨by rw [mark_len]; exact h1, fun z => ?_, fun j => ?_⟩
      · rw [mark_get _ _ (fun y hy => by simp at hy; subst hy; rw [h1]; omega) _ (by omega), h2 z]
        by_cases hz : z = i
        · subst hz
          rw [decide_eq_true (show z < z + 1 ∧ z < n by omega)]
          simp
        · have e : ([(i : Int)] : List Int).contains (z : Int) = false := by simp; omega
          rw [e, Bool.or_false]
          exact decide_eq_decide.2 (by omega)
      · show upd st.2 (i : Int) [(i : Int)] (j : Int) = _
        unfold upd
        by_cases hj : j = i
        · subst hj
          rw [if_pos rfl, if_pos ⟨by omega, hi⟩]
        · rw [if_neg (by omega), h3]
          by_cases hc : j < i ∧ j < n
          · rw [if_pos hc, if_pos (by omega)]
          · rw [if_neg hc, if_neg (by omega)]
    · rw [if_neg hi]
      refine ⟨h1, fun z => ?_, fun j => ?_⟩
      · show rdOf false st.1 (z : Int) = _
        rw [h2 z]
        exact decide_eq_decide.2 (by omega)
      · show upd st.2 (i : Int) [] (j : Int) = _
        unfold upd
        by_cases hj : j = i
        · subst hj
          rw [if_pos rfl, if_neg (by omega)]
        · rw [if_neg (by omega), h3]
          by_cases hc : j < i ∧ j < n
          · rw [if_pos hc, if_pos (by omega)]
          · rw [if_neg hc, if_neg (by omega)]
theorem run_many : (runOf (List.replicate L z50) (List.replicate n z52) win).length = min L n := by
  obtain ⟨_, h2⟩ := pass_none (pickC (List.replicate n z52) (passB (List.replicate L z50) (List.replicate n z52) win (List.replicate L z50).length).1) (List.replicate L z50) (fun u i => by rw [z50_at]; exact pickC_z _ _ _) (passB (List.replicate L z50) (List.replicate n z52) win (List.replicate L z50).length) (List.replicate L z50).length
  have h2 : ∀ j, (passC (List.replicate L z50) (List.replicate n z52) win (List.replicate L z50).length).2 j = _ := h2
  have hB := (passB_many L n win hw L).2.2
  have hF : ∀ j : Nat, j < L → (passC (List.replicate L z50) (List.replicate n z52) win (List.replicate L z50).length).2 (j : Int) = if j < n then [(j : Int)] else [] := fun j hj => by
    rw [h2, List.length_replicate, hB j]
    by_cases hc : j < n
    · rw [if_pos ⟨hj, hc⟩, if_pos hc]
    · rw [if_neg (by omega), if_neg hc]
  obtain ⟨F, hFe⟩ : ∃ F, (passC (List.replicate L z50) (List.replicate n z52) win (List.replicate L z50).length).2 = F := ⟨_, rfl⟩
  rw [hFe] at hF
  have key : ∀ k : Nat, k ≤ L → (outTo F k).length = min k n := by
    intro k
    induction k with
    | zero => intro _; simp [outTo]
    | succ k ih =>
      intro hk
      have := ih (by omega)
      show (outTo F k ++ (if F (k : Int) = [] then [] else [(⟨(k : Int), F (k : Int)⟩ : S54)])).length = _
      rw [List.length_append, this, hF k (by omega)]
      by_cases hc : k < n
      · rw [if_pos hc, if_neg (by simp)]
        simp
        omega
      · rw [if_neg hc, if_pos rfl]
        simp
        omega
  unfold runOf
  rw [hFe]
  rw [key _ (by simp), List.length_replicate]
end
theorem MatchMany : accountinglaw49_MatchMany.Pure := by
  intro a0 hfit
  refine Ev.rounds ?_
  obtain ⟨a, b, win⟩ := a0
  show Ev (fun k => accountinglaw49_MatchMany.f k a b win) true
  have jt : Ev (fun k => accountinglaw49_MatchMany.j0 k a b win true) true := by
    refine Ev.step (fun k => accountinglaw49_MatchMany.j0.eq_2 _ _ _ _ k) ?_
    simp only [if_true]
    exact lives_ev.bind (Ev.now _)
  unfold accountinglaw49_MatchMany.f
  by_cases h1 : a < 0
  · simp only [if_pos h1]; exact jt
  by_cases h2 : a > 300
  · simp only [if_neg h1, if_pos h2]; exact jt
  by_cases h3 : b < 0
  · simp only [if_neg h1, if_neg h2, if_pos h3]; exact jt
  by_cases h4 : b > 5000
  · simp only [if_neg h1, if_neg h2, if_neg h3, decide_eq_true h4]; exact jt
  simp only [if_neg h1, if_neg h2, if_neg h3, decide_eq_false h4]
  obtain ⟨L, rfl⟩ := Int.eq_ofNat_of_zero_le (show 0 ≤ a by omega)
  obtain ⟨n, rfl⟩ := Int.eq_ofNat_of_zero_le (show 0 ≤ b by omega)
  refine Ev.step (fun k => accountinglaw49_MatchMany.j0.eq_2 _ _ _ _ k) ?_
  simp only [Bool.false_eq_true, if_false, if_pos (show (0 : Int) ≤ (L : Int) by omega), if_pos (show (0 : Int) ≤ (n : Int) by omega), Int.toNat_natCast, if_pos (show L ≤ 5864062014805 by omega), if_pos (show n ≤ 7036874417766 by omega)]
  have hr := run_some (List.replicate L z50) (List.replicate n z52) win (fun x hx => by rw [(List.mem_replicate.1 hx).2]; decide) (fun x hx => by rw [(List.mem_replicate.1 hx).2]; decide) (by simp; omega) (by simp; omega)
  simp only [hr, Option.bind_some]
  by_cases hw : win < 0 ∨ win > 366
  · have hc : checkOf (List.replicate L z50) (List.replicate n z52) win = 3 := by unfold checkOf; rw [if_pos hw]
    rw [hc]
    have e : (if (3 : Int) = 0 then runOf (List.replicate L z50) (List.replicate n z52) win else []) = [] := rfl
    rw [e]
    have j1 : Ev (fun k => accountinglaw49_MatchMany.j1 k (L : Int) (n : Int) [] 3 true) true := by
      refine Ev.step (fun k => accountinglaw49_MatchMany.j1.eq_2 _ _ _ _ _ k) ?_
      simp only [if_true]
      simp only [List.length_nil, Int.ofNat_zero, if_true]
      exact lives_ev.bind (Ev.now _)
    by_cases h5 : win < 0
    · simp only [if_pos h5]; exact j1
    · simp only [if_neg h5, decide_eq_true (show win > 366 by omega)]; exact j1
  · have hwr : 0 ≤ win ∧ win ≤ 366 := by omega
    simp only [if_neg (show ¬ win < 0 by omega), decide_eq_false (show ¬ win > 366 by omega)]
    by_cases hbig : L > 200 ∨ n > 4000
    · have hc : checkOf (List.replicate L z50) (List.replicate n z52) win = 9 := by unfold checkOf; rw [if_neg hw, List.length_replicate, List.length_replicate, if_pos hbig]
      rw [hc]
      have e : (if (9 : Int) = 0 then runOf (List.replicate L z50) (List.replicate n z52) win else []) = [] := rfl
      rw [e]
      refine Ev.step (fun k => accountinglaw49_MatchMany.j1.eq_2 _ _ _ _ _ k) ?_
      simp only [Bool.false_eq_true, if_false]
      have j2 : Ev (fun k => accountinglaw49_MatchMany.j2 k (L : Int) (n : Int) [] 9 true) true := by
        refine Ev.step (fun k => accountinglaw49_MatchMany.j2.eq_2 _ _ _ _ _ k) ?_
        simp only [if_true]
        simp only [List.length_nil, Int.ofNat_zero, if_true]
        exact lives_ev.bind (Ev.now _)
      by_cases h5 : (L : Int) > 200
      · simp only [if_pos h5]; exact j2
      · simp only [if_neg h5, decide_eq_true (show (n : Int) > 4000 by omega)]; exact j2
    · have hfine : Fine (List.replicate L z50) (List.replicate n z52) win := ⟨hwr.1, hwr.2, by simp; omega, by simp; omega, fun x hx => by rw [(List.mem_replicate.1 hx).2]; decide, fun x hx => by rw [(List.mem_replicate.1 hx).2]; decide⟩
      have hc := (fine_iff _ _ _).2 hfine
      rw [hc, if_pos rfl]
      have hlen := run_many L n win hwr
      obtain ⟨m, hm⟩ : ∃ m, runOf (List.replicate L z50) (List.replicate n z52) win = m := ⟨_, rfl⟩
      rw [hm] at hlen ⊢
      refine Ev.step (fun k => accountinglaw49_MatchMany.j1.eq_2 _ _ _ _ _ k) ?_
      simp only [Bool.false_eq_true, if_false, if_neg (show ¬ (L : Int) > 200 by omega), decide_eq_false (show ¬ (n : Int) > 4000 by omega)]
      refine Ev.step (fun k => accountinglaw49_MatchMany.j2.eq_2 _ _ _ _ _ k) ?_
      simp only [Bool.false_eq_true, if_false, if_true]
      by_cases h5 : (n : Int) < (L : Int)
      · simp only [if_pos h5, if_pos (show (m.length : Int) = (n : Int) by omega)]
        exact lives_ev.bind (Ev.now _)
      · simp only [if_neg h5, if_pos (show (m.length : Int) = (L : Int) by omega)]
        exact lives_ev.bind (Ev.now _)
end Go.Proofs.YtinfcbfdeacllaaDoor.Pure
