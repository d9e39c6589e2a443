/- The pure statement of the law MatchNamed. -/
import Derived.Test.YtinfcbfdeacllaaDoorSayMatchNamed
import Derived.Test.YtinfcbfdeacllaaDoorSpecE
namespace Go.Proofs.YtinfcbfdeacllaaDoor.Pure
open Go.RowKit Go.Proofs.YtinfcbfdeacllaaDoor.P Go.Proofs.YtinfcbfdeacllaaDoor.Op Go.Proofs.YtinfcbfdeacllaaDoorW.PrintWords Go.Proofs.YtinfcbfdeacllaaDoorW.PrintLast Go.Proofs.YtinfcbfdeacllaaDoor.Sp
theorem find_only {p : Int → Bool} {z : Int} : ∀ {L : List Int}, z ∈ L → (∀ y ∈ L, p y = true ↔ y = z) → L.find? p = some z
  | y :: r, hz, h => by
    rw [List.find?_cons]
    cases hp : p y
    · have hne : y ≠ z := fun e => by rw [(h y (by simp)).2 e] at hp; cases hp
      rcases List.mem_cons.1 hz with e | hz
      · exact absurd e.symm hne
      · exact find_only hz (fun x hx => h x (by simp [hx]))
    · rw [(h y (by simp)).1 hp]
theorem outTo_full (f : Int → List Int) : ∀ n : Nat, (∀ j : Nat, j < n → f (j : Int) ≠ []) → outTo f n = (List.range n).map (fun (j : Nat) => (⟨(j : Int), f (j : Int)⟩ : S54))
  | 0, _ => rfl
  | n + 1, h => by
    show outTo f n ++ (if f (n : Int) = [] then [] else [(⟨(n : Int), f (n : Int)⟩ : S54)]) = _
    rw [if_neg (h n (by omega)), outTo_full f n (fun j hj => h j (by omega)), List.range_succ, List.map_append]
    rfl
def refAt (lines : List S50) (i : Nat) : List UInt8 := (rd_T50 lines (i : Int)).f2.toList
structure OkAt (lines : List S50) (i : Nat) : Prop where
  dis : ∀ j, j < i → refAt lines j ≠ refAt lines i
  ne : refAt lines i ≠ []
  d : 0 ≤ (rd_T50 lines (i : Int)).f0 ∧ (rd_T50 lines (i : Int)).f0 ≤ 109572
  a : -1000000000000 ≤ (rd_T50 lines (i : Int)).f1 ∧ (rd_T50 lines (i : Int)).f1 ≤ 1000000000000
def mkB (day : Int) (lines : List S50) (i : Nat) : S52 := ⟨(i : Int), day, (rd_T50 lines (i : Int)).f1, (rd_T50 lines (i : Int)).f2⟩
def bks (day : Int) (lines : List S50) (c : Nat) : List S52 := (List.range c).map (fun t => mkB day lines (lines.length - 1 - t))
theorem bks_len (day : Int) (lines : List S50) (c : Nat) : (bks day lines c).length = c := by simp [bks]
theorem bks_at (day : Int) (lines : List S50) (c z : Nat) (h : z < c) : rd_T52 (bks day lines c) (z : Int) = mkB day lines (lines.length - 1 - z) := by simp [bks, rd_T52, h]
theorem bks_succ (day : Int) (lines : List S50) (c : Nat) : bks day lines (c + 1) = bks day lines c ++ [mkB day lines (lines.length - 1 - c)] := by simp [bks, List.range_succ]
section
variable (day win : Int) (lines : List S50) (hd : 0 ≤ day ∧ day ≤ 109572) (hw : 0 ≤ win ∧ win ≤ 366) (hn : lines.length ≤ 30) (hsz : ∀ x ∈ lines, x.f2.size ≤ maxLen) (hok : ∀ i, i < lines.length → OkAt lines i)
include hok
theorem refs_inj {i j : Nat} (hi : i < lines.length) (hj : j < lines.length) (h : refAt lines i = refAt lines j) : i = j := by
  rcases Nat.lt_trichotomy i j with e | e | e
  · exact absurd h ((hok j hj).dis i e)
  · exact e
  · exact absurd h.symm ((hok i hi).dis j e)
theorem pickA_named (i : Nat) (hi : i < lines.length) (u : List Bool) (hu : rdOf false u ((lines.length - 1 - i : Nat) : Int) = false) : pickA (bks day lines lines.length) u (rd_T50 lines (i : Int)) = [((lines.length - 1 - i : Nat) : Int)] := by
  rw [pickA_eq, if_neg (show ¬ (rd_T50 lines (i : Int)).f2.toList = [] from (hok i hi).ne), bks_len]
  rw [find_only (z := ((lines.length - 1 - i : Nat) : Int))]
  · rfl
  · exact List.mem_map.2 ⟨lines.length - 1 - i, List.mem_range.2 (by omega), rfl⟩
  · intro y hy
    obtain ⟨z, hz, rfl⟩ := List.mem_map.1 hy
    have hz := List.mem_range.1 hz
    unfold isNamed
    rw [bks_at day lines _ z hz]
    constructor
    · intro h
      simp at h
      have := refs_inj lines hok (i := lines.length - 1 - z) (j := i) (by omega) hi h.1
      omega
    · intro h
      obtain rfl : z = lines.length - 1 - i := by omega
      rw [hu, show lines.length - 1 - (lines.length - 1 - i) = i by omega]
      simp [mkB]
theorem passA_named : ∀ i : Nat, i ≤ lines.length → (passA lines (bks day lines lines.length) i).1.length = lines.length ∧ (∀ z : Nat, z < lines.length → rdOf false (passA lines (bks day lines lines.length) i).1 (z : Int) = decide (lines.length ≤ z + i)) ∧ (∀ j : Nat, j < lines.length → (passA lines (bks day lines lines.length) i).2 (j : Int) = if j < i then [((lines.length - 1 - j : Nat) : Int)] else [])
  | 0, _ => by
    have h1 : (passA lines (bks day lines lines.length) 0).1 = noneUsed (bks day lines lines.length) := rfl
    refine ⟨by rw [h1]; simp [noneUsed, bks_len], fun z hz => ?_, fun j hj => ?_⟩
    · rw [h1, none_get, decide_eq_false (by omega)]
    · rw [if_neg (by omega)]
      rfl
  | i + 1, hi => by
    obtain ⟨h1, h2, h3⟩ := passA_named i (by omega)
    have hp := pickA_named day lines hok i (by omega) (passA lines (bks day lines lines.length) i).1 (by rw [h2 _ (by omega), decide_eq_false (by omega)])
    obtain ⟨st, hst⟩ : ∃ st, passA lines (bks day lines lines.length) i = st := ⟨_, rfl⟩
    have hs : passA lines (bks day lines lines.length) (i + 1) = stepOf (pickA (bks day lines lines.length)) lines st i := by rw [← hst]; rfl
    rw [hst] at h1 h2 h3 hp
    rw [hs]
    unfold stepOf
    rw [if_pos (by rw [h3 i (by omega), if_neg (by omega)]), hp]
    refine ⟨by rw [mark_len]; exact h1, fun z hz => ?_, fun j hj => ?_⟩
    · rw [mark_get _ _ (fun y hy => by simp only [List.mem_singleton] at hy; rw [hy, h1]; omega) _ (by omega), h2 z hz]
      by_cases e : z = lines.length - 1 - i
      · rw [decide_eq_true (show lines.length ≤ z + (i + 1) by omega), e]
        simp
      · have e2 : ([((lines.length - 1 - i : Nat) : Int)] : List Int).contains (z : Int) = false := by
          rw [← Bool.not_eq_true, List.contains_iff_mem, List.mem_singleton]
          omega
        rw [e2, Bool.or_false]
        exact decide_eq_decide.2 (by omega)
    · show upd st.2 (i : Int) [((lines.length - 1 - i : Nat) : Int)] (j : Int) = _
      unfold upd
      by_cases e : j = i
      · subst e
        rw [if_pos rfl, if_pos (by omega)]
      · rw [if_neg (by omega), h3 j hj]
        by_cases hc : j < i
        · rw [if_pos hc, if_pos (by omega)]
        · rw [if_neg hc, if_neg (by omega)]
theorem run_named : runOf lines (bks day lines lines.length) win = (List.range lines.length).map (fun (j : Nat) => (⟨(j : Int), [((lines.length - 1 - j : Nat) : Int)]⟩ : S54)) := by
  have hA : ∀ j : Nat, j < lines.length → (passA lines (bks day lines lines.length) lines.length).2 (j : Int) = [((lines.length - 1 - j : Nat) : Int)] := fun j hj => by
    rw [(passA_named day lines hok lines.length (Nat.le_refl _)).2.2 j hj, if_pos hj]
  have hB : ∀ j : Nat, j < lines.length → (passB lines (bks day lines lines.length) win lines.length).2 (j : Int) = [((lines.length - 1 - j : Nat) : Int)] := fun j hj =>
    (pass_keeps _ lines _ (j : Int) (by rw [hA j hj]; simp) lines.length).trans (hA j hj)
  have hC : ∀ j : Nat, j < lines.length → (passC lines (bks day lines lines.length) win lines.length).2 (j : Int) = [((lines.length - 1 - j : Nat) : Int)] := fun j hj =>
    (pass_keeps _ lines _ (j : Int) (by rw [hB j hj]; simp) lines.length).trans (hB j hj)
  unfold runOf
  rw [outTo_full _ _ (fun j hj => by rw [hC j hj]; simp)]
  refine List.map_congr_left (fun j hj => ?_)
  rw [hC j (List.mem_range.1 hj)]
include hd hw hn hsz
theorem named_end : Ev (fun k => accountinglaw49_MatchNamed.l0 k lines win day (bks day lines lines.length) (-1)) true := by
  have hf : Fine lines (bks day lines lines.length) win := by
    refine ⟨hw.1, hw.2, by omega, by rw [bks_len]; omega, fun x hx => ?_, fun x hx => ?_⟩
    · obtain ⟨i, hi, rfl⟩ := List.mem_iff_getElem.1 hx
      have := hok i hi
      have e : rd_T50 lines (i : Int) = lines[i] := by simp [rd_T50, hi]
      rw [← e]
      exact ⟨this.d, this.a⟩
    · obtain ⟨t, ht, rfl⟩ := List.mem_map.1 hx
      have ht := List.mem_range.1 ht
      exact ⟨hd, (hok _ (by omega)).a⟩
  have hbs : ∀ x ∈ bks day lines lines.length, x.f3.size ≤ maxLen := fun x hx => by
    obtain ⟨t, ht, rfl⟩ := List.mem_map.1 hx
    have ht := List.mem_range.1 ht
    exact hsz _ (rd50_mem (by omega))
  refine Ev.step (fun k => accountinglaw49_MatchNamed.l0.eq_2 _ _ _ _ _ k) ?_
  simp only [if_neg (show ¬ (-1 : Int) ≥ 0 by omega), run_some lines (bks day lines lines.length) win hsz hbs (by omega) (by rw [bks_len]; omega), Option.bind_some, (fine_iff _ _ _).2 hf, if_true, run_named day win lines hok]
  have hlen : ((List.range lines.length).map (fun (j : Nat) => (⟨(j : Int), [((lines.length - 1 - j : Nat) : Int)]⟩ : S54))).length = lines.length := by simp
  have hne : (((((List.range lines.length).map (fun (j : Nat) => (⟨(j : Int), [((lines.length - 1 - j : Nat) : Int)]⟩ : S54))).length : Nat) : Int) != (lines.length : Int)) = false := by rw [hlen]; simp
  rw [hne]
  refine Ev.step (fun k => accountinglaw49_MatchNamed.j3.eq_2 _ _ _ k) ?_
  simp only [Bool.false_eq_true, if_false]
  have key : ∀ (c i : Nat), lines.length - i = c → i ≤ lines.length → Ev (fun k => accountinglaw49_MatchNamed.l2 k lines ((List.range lines.length).map (fun (j : Nat) => (⟨(j : Int), [((lines.length - 1 - j : Nat) : Int)]⟩ : S54))) (i : Int)) true := by
    intro c
    induction c with
    | zero =>
      intro i hc hi
      refine Ev.step (fun k => accountinglaw49_MatchNamed.l2.eq_2 _ _ _ k) ?_
      simp only [hlen, if_neg (show ¬ ((i : Int) < (lines.length : Int)) by omega)]
      exact lives_ev.bind (Ev.now _)
    | succ c ih =>
      intro i hc hi
      have hil : i < lines.length := by omega
      have hw1 : wrap64 ((i : Int) + 1) = ((i + 1 : Nat) : Int) := by rw [w64 (by omega) (by omega)]; omega
      have e : rd_T54 ((List.range lines.length).map (fun (j : Nat) => (⟨(j : Int), [((lines.length - 1 - j : Nat) : Int)]⟩ : S54))) (i : Int) = ⟨(i : Int), [((lines.length - 1 - i : Nat) : Int)]⟩ := by simp [rd_T54, hil]
      have e2 : wrap64 (wrap64 ((lines.length : Int) - 1) - (i : Int)) = ((lines.length - 1 - i : Nat) : Int) := by
        rw [w64s (x := (lines.length : Int) - 1) (by omega) (by omega), w64s (by omega) (by omega)]
        omega
      refine Ev.step (fun k => accountinglaw49_MatchNamed.l2.eq_2 _ _ _ k) ?_
      simp only [hlen, if_pos (show ((i : Int) < (lines.length : Int)) by omega), if_pos (show (0 : Int) ≤ (i : Int) by omega), e, e2, hw1, if_true]
      refine (ints_ev _ (by simp)).bind ?_
      simp only [if_true]
      exact ih (i + 1) (by omega) (by omega)
  exact key _ 0 rfl (Nat.zero_le _)
end
theorem named_l1 (day win : Int) (lines : List S50) (hn : lines.length ≤ 30) (B : List S52) (i : Nat) (hi : i < lines.length) (hnext : OkAt lines i → Ev (fun k => accountinglaw49_MatchNamed.l0 k lines win day B ((i : Int) - 1)) true) : ∀ (c j : Nat), i - j = c → j ≤ i → (∀ t, t < j → refAt lines t ≠ refAt lines i) → Ev (fun k => accountinglaw49_MatchNamed.l1 k lines win day B (i : Int) (j : Int)) true := by
  have hwi : wrap64 ((i : Int) - 1) = (i : Int) - 1 := w64s (by omega) (by omega)
  intro c
  induction c with
  | zero =>
    intro j hc hj hdis
    obtain rfl : j = i := by omega
    refine Ev.step (fun k => accountinglaw49_MatchNamed.l1.eq_2 _ _ _ _ _ _ k) ?_
    simp only [if_neg (show ¬ ((j : Int) < (j : Int)) by omega), if_pos (show (0 : Int) ≤ (j : Int) by omega), if_pos (show (j : Int) < (lines.length : Int) by omega), hwi]
    have lv : Ev (fun k => (accountinglaw49_lives.f k).bind fun t => some t) true := lives_ev.bind (Ev.now _)
    by_cases h1 : (rd_T50 lines (j : Int)).f2.toList = ([] : List UInt8)
    · simp only [if_pos h1]; exact lv
    by_cases h2 : (rd_T50 lines (j : Int)).f0 < 0
    · simp only [if_neg h1, if_pos h2]; exact lv
    by_cases h3 : (rd_T50 lines (j : Int)).f0 > 109572
    · simp only [if_neg h1, if_neg h2, if_pos h3]; exact lv
    by_cases h4 : (rd_T50 lines (j : Int)).f1 > 1000000000000
    · simp only [if_neg h1, if_neg h2, if_neg h3, if_pos h4]; exact lv
    by_cases h5 : (rd_T50 lines (j : Int)).f1 < -1000000000000
    · simp only [if_neg h1, if_neg h2, if_neg h3, if_neg h4, if_pos h5]; exact lv
    simp only [if_neg h1, if_neg h2, if_neg h3, if_neg h4, if_neg h5]
    exact hnext ⟨hdis, h1, by omega, by omega⟩
  | succ c ih =>
    intro j hc hj hdis
    have hw1 : wrap64 ((j : Int) + 1) = ((j + 1 : Nat) : Int) := by rw [w64 (by omega) (by omega)]; omega
    refine Ev.step (fun k => accountinglaw49_MatchNamed.l1.eq_2 _ _ _ _ _ _ k) ?_
    simp only [if_pos (show ((j : Int) < (i : Int)) by omega), if_pos (show (0 : Int) ≤ (j : Int) by omega), if_pos (show (j : Int) < (lines.length : Int) by omega), if_pos (show (0 : Int) ≤ (i : Int) by omega), if_pos (show (i : Int) < (lines.length : Int) by omega), hw1]
    by_cases h : (rd_T50 lines (j : Int)).f2.toList = (rd_T50 lines (i : Int)).f2.toList
    · simp only [if_pos h]
      exact lives_ev.bind (Ev.now _)
    · simp only [if_neg h]
      refine ih (j + 1) (by omega) (by omega) (fun t ht => ?_)
      by_cases e : t = j
      · subst e; exact h
      · exact hdis t (by omega)
section
variable (day win : Int) (lines : List S50) (hd : 0 ≤ day ∧ day ≤ 109572) (hw : 0 ≤ win ∧ win ≤ 366) (hn : lines.length ≤ 30) (hsz : ∀ x ∈ lines, x.f2.size ≤ maxLen)
include hd hw hn hsz
theorem named_l0 : ∀ (d c : Nat), lines.length - c = d → c ≤ lines.length → (∀ i, lines.length - c ≤ i → i < lines.length → OkAt lines i) → Ev (fun k => accountinglaw49_MatchNamed.l0 k lines win day (bks day lines c) ((lines.length : Int) - 1 - (c : Int))) true := by
  intro d
  induction d with
  | zero =>
    intro c hc hcl hok
    obtain rfl : c = lines.length := by omega
    rw [show (lines.length : Int) - 1 - (lines.length : Int) = -1 by omega]
    exact named_end day win lines hd hw hn hsz (fun i hi => hok i (by omega) hi)
  | succ d ih =>
    intro c hc hcl hok
    have hi : lines.length - 1 - c < lines.length := by omega
    rw [show (lines.length : Int) - 1 - (c : Int) = ((lines.length - 1 - c : Nat) : Int) by omega]
    refine Ev.step (fun k => accountinglaw49_MatchNamed.l0.eq_2 _ _ _ _ _ k) ?_
    simp only [if_pos (show ((lines.length - 1 - c : Nat) : Int) ≥ 0 by omega), if_pos (show ((lines.length - 1 - c : Nat) : Int) < (lines.length : Int) by omega), if_pos (show (bks day lines c).length < 3518437208883 by rw [bks_len]; omega)]
    refine named_l1 day win lines hn _ _ hi (fun hoki => ?_) _ 0 rfl (Nat.zero_le _) (fun t ht => absurd ht (by omega))
    have := ih (c + 1) (by omega) (by omega) (fun i h1 h2 => by
      by_cases e : i = lines.length - 1 - c
      · rw [e]; exact hoki
      · exact hok i (by omega) h2)
    rw [bks_succ] at this
    rw [show ((lines.length - 1 - c : Nat) : Int) - 1 = (lines.length : Int) - 1 - ((c + 1 : Nat) : Int) by omega]
    exact this
end
theorem MatchNamed : accountinglaw49_MatchNamed.Pure := by
  intro l0 a1 a2 hfit h1 h2
  obtain ⟨_, hl⟩ := hfit
  refine Ev.rounds ?_
  obtain ⟨b, hbv, hsm⟩ := large_ev l0 []
  unfold accountinglaw49_MatchNamed.f
  refine hbv.bind ?_
  have jt : Ev (fun k => accountinglaw49_MatchNamed.j0 k l0 a1 a2 true) true := by
    refine Ev.step (fun k => accountinglaw49_MatchNamed.j0.eq_2 _ _ _ _ k) ?_
    simp only [if_true]
    exact lives_ev.bind (Ev.now _)
  cases b
  · obtain ⟨h30, _⟩ := hsm rfl
    by_cases c1 : a1 < 0
    · simp only [Bool.false_eq_true, if_false, if_pos c1]; exact jt
    by_cases c2 : a1 > 366
    · simp only [Bool.false_eq_true, if_false, if_neg c1, if_pos c2]; exact jt
    by_cases c3 : a2 < 0
    · simp only [Bool.false_eq_true, if_false, if_neg c1, if_neg c2, if_pos c3]; exact jt
    by_cases c4 : a2 > 109572
    · simp only [Bool.false_eq_true, if_false, if_neg c1, if_neg c2, if_neg c3, decide_eq_true c4]; exact jt
    simp only [Bool.false_eq_true, if_false, if_neg c1, if_neg c2, if_neg c3, decide_eq_false c4]
    refine Ev.step (fun k => accountinglaw49_MatchNamed.j0.eq_2 _ _ _ _ k) ?_
    simp only [Bool.false_eq_true, if_false, w64s (x := (l0.length : Int) - 1) (by omega) (by omega)]
    have := named_l0 a2 a1 l0 (by omega) (by omega) h30 (fun x hx => (hl x hx).2.2.1) _ 0 rfl (Nat.zero_le _) (fun i h1 h2 => absurd h2 (by omega))
    rw [show (l0.length : Int) - 1 - ((0 : Nat) : Int) = (l0.length : Int) - 1 by omega] at this
    exact this
  · simp only [if_true]
    exact jt
end Go.Proofs.YtinfcbfdeacllaaDoor.Pure
