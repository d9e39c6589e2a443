/- Texts of mine, joined: SpecA, SpecB. -/
import Derived.Test.YtinfcbfdeacllaaDoorPx1
import Derived.Test.YtinfcbfdeacllaaDoorPx15
import Derived.Test.YtinfcbfdeacllaaDoorHandJ
import Derived.Test.YtinfcbfdeacllaaDoorPx7
/- The examples, the size of a case, and what the passes of match.Run keep. -/
namespace Go.Proofs.YtinfcbfdeacllaaDoor.Sp
open Go.RowKit Go.Proofs.YtinfcbfdeacllaaDoor.P Go.Proofs.YtinfcbfdeacllaaDoorW.PrintWords Go.Proofs.YtinfcbfdeacllaaDoorW.PrintLast
set_option linter.unusedVariables false
set_option linter.unusedSimpArgs false
theorem lives_ev : Ev (fun k => accountinglaw49_lives.f k) true := Ev.of (fun k => accountinglaw49_lives.mono k) accountinglaw49_lives.true_at
theorem large_l1 (books : List S52) (hb : books.length ≤ 60) : ∀ (n i : Nat), books.length - i = n → i ≤ books.length → ∃ b, Ev (fun k => accountinglaw49_large.l1 k books (i : Int)) b := by
  intro n
  induction n with
  | zero =>
    intro i hn hi
    refine ⟨false, Ev.step (fun k => accountinglaw49_large.l1.eq_2 _ _ k) ?_⟩
    simp only [if_neg (show ¬ ((i : Int) < (books.length : Int)) by omega)]
    exact Ev.now _
  | succ n ih =>
    intro i hn hi
    have hw : wrap64 ((i : Int) + 1) = ((i + 1 : Nat) : Int) := by rw [w64 (by omega) (by omega)]; omega
    by_cases h : (((rd_T52 books (i : Int)).f3).size : Int) > 300
    · refine ⟨true, Ev.step (fun k => accountinglaw49_large.l1.eq_2 _ _ k) ?_⟩
      simp only [if_pos (show ((i : Int) < (books.length : Int)) by omega), if_pos (show (0 : Int) ≤ (i : Int) by omega), if_pos h]
      exact Ev.now _
    · obtain ⟨b, hb'⟩ := ih (i + 1) (by omega) (by omega)
      refine ⟨b, Ev.step (fun k => accountinglaw49_large.l1.eq_2 _ _ k) ?_⟩
      simp only [if_pos (show ((i : Int) < (books.length : Int)) by omega), if_pos (show (0 : Int) ≤ (i : Int) by omega), if_neg h, hw]
      exact hb'
theorem large_l0 (lines : List S50) (books : List S52) (hl : lines.length ≤ 30) (hb : books.length ≤ 60) : ∀ (n i : Nat), lines.length - i = n → i ≤ lines.length → ∃ b, Ev (fun k => accountinglaw49_large.l0 k lines books (i : Int)) b := by
  intro n
  induction n with
  | zero =>
    intro i hn hi
    obtain ⟨b, hb'⟩ := large_l1 books hb _ 0 rfl (Nat.zero_le _)
    refine ⟨b, Ev.step (fun k => accountinglaw49_large.l0.eq_2 _ _ _ k) ?_⟩
    simp only [if_neg (show ¬ ((i : Int) < (lines.length : Int)) by omega)]
    exact hb'
  | succ n ih =>
    intro i hn hi
    have hw : wrap64 ((i : Int) + 1) = ((i + 1 : Nat) : Int) := by rw [w64 (by omega) (by omega)]; omega
    by_cases h : (wrap64 ((((rd_T50 lines (i : Int)).f2).size : Int) + (((rd_T50 lines (i : Int)).f3).size : Int))) > 300
    · refine ⟨true, Ev.step (fun k => accountinglaw49_large.l0.eq_2 _ _ _ k) ?_⟩
      simp only [if_pos (show ((i : Int) < (lines.length : Int)) by omega), if_pos (show (0 : Int) ≤ (i : Int) by omega), if_pos h]
      exact Ev.now _
    · obtain ⟨b, hb'⟩ := ih (i + 1) (by omega) (by omega)
      refine ⟨b, Ev.step (fun k => accountinglaw49_large.l0.eq_2 _ _ _ k) ?_⟩
      simp only [if_pos (show ((i : Int) < (lines.length : Int)) by omega), if_pos (show (0 : Int) ≤ (i : Int) by omega), if_neg h, hw]
      exact hb'
theorem large_ev (lines : List S50) (books : List S52) : ∃ b, Ev (fun k => accountinglaw49_large.f k lines books) b ∧ (b = false → lines.length ≤ 30 ∧ books.length ≤ 60) := by
  have jt : Ev (fun k => accountinglaw49_large.j0 k lines books true) true := Ev.step (fun k => accountinglaw49_large.j0.eq_2 _ _ _ k) (by simp only [if_true]; exact Ev.now _)
  unfold accountinglaw49_large.f
  by_cases h1 : (lines.length : Int) > 30
  · refine ⟨true, ?_, fun h => by cases h⟩
    simp only [if_pos h1]; exact jt
  · by_cases h2 : (books.length : Int) > 60
    · refine ⟨true, ?_, fun h => by cases h⟩
      simp only [if_neg h1, decide_eq_true h2]; exact jt
    · obtain ⟨b, hb⟩ := large_l0 lines books (by omega) (by omega) _ 0 rfl (Nat.zero_le _)
      refine ⟨b, ?_, fun _ => ⟨by omega, by omega⟩⟩
      simp only [if_neg h1, decide_eq_false h2]
      refine Ev.step (fun k => accountinglaw49_large.j0.eq_2 _ _ _ k) ?_
      simp only [Bool.false_eq_true, if_false]
      exact hb

/-! ### Marks -/
theorem mark_len (u : List Bool) (p : List Int) : (P.mark u p).length = u.length := by
  unfold P.mark
  induction p generalizing u with
  | nil => rfl
  | cons x r ih => rw [List.foldl_cons, ih, List.length_set]
theorem rdOf_set (u : List Bool) (x z : Int) (hx : 0 ≤ x) (hz : 0 ≤ z) (hu : x < u.length) : rdOf false (u.set x.toNat true) z = (rdOf false u z || decide (z = x)) := by
  unfold rdOf
  rw [List.getD_eq_getElem?_getD, List.getD_eq_getElem?_getD, List.getElem?_set]
  by_cases e : z = x
  · subst e
    rw [if_pos rfl, if_pos (by omega)]
    simp
  · rw [if_neg (by omega)]
    simp [e]
theorem mark_get (u : List Bool) (p : List Int) (hp : ∀ z ∈ p, 0 ≤ z ∧ z < u.length) (z : Int) (hz : 0 ≤ z) : rdOf false (P.mark u p) z = (rdOf false u z || p.contains z) := by
  induction p generalizing u with
  | nil => simp [P.mark]
  | cons x r ih =>
    have h1 := hp x (by simp)
    show rdOf false (P.mark (u.set x.toNat true) r) z = _
    rw [ih (u.set x.toNat true) (fun y hy => by rw [List.length_set]; exact hp y (by simp [hy])), rdOf_set u x z h1.1 hz h1.2]
    rw [List.contains_cons, Bool.or_assoc]
    congr 2

/-! ### What every pass keeps -/
structure Good (n : Nat) (st : List Bool × (Int → List Int)) : Prop where
  len : st.1.length = n
  rng : ∀ i, ∀ z ∈ st.2 i, 0 ≤ z ∧ z < n
  use : ∀ z, 0 ≤ z → (rdOf false st.1 z = true ↔ ∃ i, z ∈ st.2 i)
  dis : ∀ i j z, z ∈ st.2 i → z ∈ st.2 j → i = j
def PickOk (n : Nat) (pick : List Bool → S50 → List Int) : Prop := ∀ u l z, u.length = n → z ∈ pick u l → (0 ≤ z ∧ z < n) ∧ rdOf false u z = false
theorem Good.step {n : Nat} {pick : List Bool → S50 → List Int} (hp : PickOk n pick) {lines : List S50} {st : List Bool × (Int → List Int)} (h : Good n st) (i : Nat) : Good n (stepOf pick lines st i) := by
  unfold stepOf
  split
  case isFalse => exact h
  case isTrue hi =>
    have hr : ∀ z ∈ pick st.1 (rd_T50 lines (i : Int)), 0 ≤ z ∧ z < (st.1.length : Int) := fun z hz => by rw [h.len]; exact (hp _ _ z h.len hz).1
    have hu : ∀ j z, z ∈ upd st.2 (i : Int) (pick st.1 (rd_T50 lines (i : Int))) j ↔ (j = (i : Int) ∧ z ∈ pick st.1 (rd_T50 lines (i : Int))) ∨ (j ≠ (i : Int) ∧ z ∈ st.2 j) := fun j z => by
      unfold upd
      by_cases e : j = (i : Int)
      · rw [if_pos e]; simp [e]
      · rw [if_neg e]; simp [e]
    refine ⟨by rw [mark_len]; exact h.len, fun j z hz => ?_, fun z hz => ?_, fun j j' z h1 h2 => ?_⟩
    · rcases (hu j z).1 hz with ⟨_, h1⟩ | ⟨_, h1⟩
      · exact (hp _ _ z h.len h1).1
      · exact h.rng j z h1
    · rw [mark_get _ _ hr z hz, Bool.or_eq_true, h.use z hz]
      constructor
      · rintro (⟨j, hj⟩ | hc)
        · by_cases e : j = (i : Int)
          · rw [e, hi] at hj; simp at hj
          · exact ⟨j, (hu j z).2 (.inr ⟨e, hj⟩)⟩
        · exact ⟨i, (hu i z).2 (.inl ⟨rfl, by simpa using hc⟩)⟩
      · rintro ⟨j, hj⟩
        rcases (hu j z).1 hj with ⟨_, h1⟩ | ⟨_, h1⟩
        · right; simpa using h1
        · exact .inl ⟨j, h1⟩
    · have key : ∀ a, z ∈ pick st.1 (rd_T50 lines (i : Int)) → z ∈ st.2 a → False := fun a ha hb => by
        obtain ⟨⟨z0, _⟩, hf⟩ := hp _ _ z h.len ha
        rw [(h.use z z0).2 ⟨a, hb⟩] at hf
        cases hf
      rcases (hu j z).1 h1 with ⟨e1, a1⟩ | ⟨e1, a1⟩ <;> rcases (hu j' z).1 h2 with ⟨e2, a2⟩ | ⟨e2, a2⟩
      · rw [e1, e2]
      · exact (key _ a1 a2).elim
      · exact (key _ a2 a1).elim
      · exact h.dis j j' z a1 a2
theorem Good.pass {n : Nat} {pick : List Bool → S50 → List Int} (hp : PickOk n pick) {lines : List S50} {st : List Bool × (Int → List Int)} (h : Good n st) : ∀ k, Good n (pass pick lines st k)
  | 0 => h
  | k + 1 => (Good.pass hp h k).step hp k
theorem good_start (books : List S52) : Good books.length (noneUsed books, fun _ => []) := by
  refine ⟨by simp [noneUsed], fun i z hz => by simp at hz, fun z hz => ?_, fun i j z hz => by simp at hz⟩
  have : rdOf false (noneUsed books) z = false := by
    unfold rdOf noneUsed
    rw [List.getD_eq_getElem?_getD, List.getElem?_replicate]
    split <;> rfl
  rw [this]
  simp
theorem pickA_ok (books : List S52) : PickOk books.length (pickA books) := by
  intro u l z hu hz
  refine ⟨refsTo_mem (pickSame_mem hz), ?_⟩
  unfold pickA pickSame at hz
  split at hz
  · simp at hz
  · cases hf : (refsTo books (noneUsed books) books.length l.f2).find? (isSame books u l) with
    | none => rw [hf] at hz; simp [pickOf] at hz
    | some y =>
      rw [hf] at hz
      simp [pickOf] at hz
      subst hz
      have := List.find?_some hf
      unfold isSame at this
      simp at this
      exact this.1
theorem nearTo_unused (books : List S52) (u : List Bool) (win : Int) (l : S50) : ∀ k, 0 ≤ (nearTo books u win l k).1 → rdOf false u (nearTo books u win l k).1 = false ∧ (rd_T52 books (nearTo books u win l k).1).f2 = l.f1
  | 0, h => by
    have : (nearTo books u win l 0).1 = -1 := rfl
    omega
  | k + 1, h => by
    rw [nearTo_succ] at h ⊢
    unfold nearStep at h ⊢
    by_cases hc : (!rdOf false u (k : Int) && (rd_T52 books (k : Int)).f2 == l.f1 && decide (apt (rd_T52 books (k : Int)).f1 l.f0 < (nearTo books u win l k).2)) = true
    · rw [if_pos hc]
      simp at hc
      exact ⟨hc.1.1, hc.1.2⟩
    · rw [if_neg hc] at h ⊢
      exact nearTo_unused books u win l k h
theorem pickB_ok (books : List S52) (win : Int) : PickOk books.length (pickB books win) := by
  intro u l z hu hz
  refine ⟨pickNear_mem hz, ?_⟩
  unfold pickB pickNear at hz
  split at hz
  · simp at hz
  · rename_i hn
    simp at hz
    subst hz
    exact (nearTo_unused books u win l _ (by omega)).1
theorem pickC_ok (books : List S52) (u0 : List Bool) : PickOk books.length (pickC books u0) := by
  intro u l z hu hz
  refine ⟨refsTo_mem (pickGroup_mem hz), ?_⟩
  unfold pickC pickGroup at hz
  split at hz
  · simp at hz
  · split at hz
    · simp at hz
    · split at hz
      · have := (List.mem_filter.1 hz).2
        simpa using this
      · simp at hz
theorem goodA (lines : List S50) (books : List S52) (k : Nat) : Good books.length (passA lines books k) := Good.pass (pickA_ok books) (good_start books) k
theorem goodB (lines : List S50) (books : List S52) (win : Int) (k : Nat) : Good books.length (passB lines books win k) := Good.pass (pickB_ok books win) (goodA lines books _) k
theorem goodC (lines : List S50) (books : List S52) (win : Int) (k : Nat) : Good books.length (passC lines books win k) := Good.pass (pickC_ok books _) (goodB lines books win _) k
/-- Beyond the lines nothing is found. -/
theorem pass_out (pick : List Bool → S50 → List Int) (lines : List S50) (st : List Bool × (Int → List Int)) (j : Int) (h : st.2 j = []) : ∀ k : Nat, (∀ i : Nat, i < k → (i : Int) ≠ j) → (pass pick lines st k).2 j = []
  | 0, _ => h
  | k + 1, hj => by
    have ih := pass_out pick lines st j h k (fun i hi => hj i (by omega))
    show (stepOf pick lines (pass pick lines st k) k).2 j = []
    unfold stepOf
    split
    · show upd _ _ _ j = []
      unfold upd
      rw [if_neg (fun e => hj k (by omega) e.symm)]
      exact ih
    · exact ih
theorem outC (lines : List S50) (books : List S52) (win : Int) (k : Nat) (hk : k ≤ lines.length) (j : Int) (hj : ∀ i : Nat, i < lines.length → (i : Int) ≠ j) : (passC lines books win k).2 j = [] :=
  pass_out _ _ _ j (pass_out _ _ _ j (pass_out _ _ _ j rfl _ hj) _ hj) _ (fun i hi => hj i (by omega))
/-- What was found stays. -/
theorem pass_keeps (pick : List Bool → S50 → List Int) (lines : List S50) (st : List Bool × (Int → List Int)) (j : Int) (h : st.2 j ≠ []) : ∀ k : Nat, (pass pick lines st k).2 j = st.2 j
  | 0 => rfl
  | k + 1 => by
    have ih := pass_keeps pick lines st j h k
    show (stepOf pick lines (pass pick lines st k) k).2 j = _
    unfold stepOf
    split
    · rename_i hk
      show upd _ _ _ j = _
      unfold upd
      by_cases e : j = (k : Int)
      · subst e; rw [ih] at hk; exact absurd hk h
      · rw [if_neg e]; exact ih
    · exact ih
theorem run_some (lines : List S50) (books : List S52) (win : Int) (h1 : ∀ x ∈ lines, x.f2.size ≤ maxLen) (h2 : ∀ x ∈ books, x.f3.size ≤ maxLen) (h3 : lines.length ≤ 1000000) (h4 : books.length ≤ 1000000) :
    match_Run.f lines books win = some (if checkOf lines books win = 0 then runOf lines books win else [], checkOf lines books win) := by
  unfold match_Run.f
  rw [if_pos ⟨h1, h2, h4, h3⟩]
  by_cases h : checkOf lines books win = 0
  · rw [if_pos h, if_pos h, h]
  · rw [if_neg h, if_neg h]
end Go.Proofs.YtinfcbfdeacllaaDoor.Sp

/- What the passes of match.Run find, without the reference. -/
namespace Go.Proofs.YtinfcbfdeacllaaDoor.Sp
open Go.RowKit Go.Proofs.YtinfcbfdeacllaaDoor.P Go.Proofs.YtinfcbfdeacllaaDoorW.PrintWords Go.Proofs.YtinfcbfdeacllaaDoorW.PrintLast
set_option linter.unusedVariables false
set_option linter.unusedSimpArgs false
theorem firstOf_zero (l : List Int) (h : firstOf l = 0) : ∀ x ∈ l, x = 0 := by
  induction l with
  | nil => intro x hx; simp at hx
  | cons y r ih =>
    rw [firstOf_cons] at h
    by_cases e : y = 0
    · rw [if_pos e] at h
      intro x hx
      rcases List.mem_cons.1 hx with rfl | hx
      · exact e
      · exact ih h x hx
    · rw [if_neg e] at h; exact absurd h e
theorem wrongOf_zero {a b : Int} (h : wrongOf a b = 0) : (0 ≤ a ∧ a ≤ 109572) ∧ (-1000000000000 ≤ b ∧ b ≤ 1000000000000) := by
  unfold wrongOf at h
  split at h
  · rename_i h1
    split at h
    · cases h
    · exact ⟨h1, by omega⟩
  · cases h
theorem wrongOf_ok {a b : Int} (h1 : 0 ≤ a ∧ a ≤ 109572) (h2 : -1000000000000 ≤ b ∧ b ≤ 1000000000000) : wrongOf a b = 0 := by
  unfold wrongOf
  rw [if_pos h1, if_neg (by omega)]
structure Fine (lines : List S50) (books : List S52) (win : Int) : Prop where
  w0 : 0 ≤ win
  w1 : win ≤ 366
  l : lines.length ≤ 200
  b : books.length ≤ 4000
  ld : ∀ x ∈ lines, (0 ≤ x.f0 ∧ x.f0 ≤ 109572) ∧ (-1000000000000 ≤ x.f1 ∧ x.f1 ≤ 1000000000000)
  bd : ∀ x ∈ books, (0 ≤ x.f1 ∧ x.f1 ≤ 109572) ∧ (-1000000000000 ≤ x.f2 ∧ x.f2 ≤ 1000000000000)
theorem firstOf_all (l : List Int) (h : ∀ x ∈ l, x = 0) : firstOf l = 0 := by
  induction l with
  | nil => rfl
  | cons y r ih => rw [firstOf_cons, if_pos (h y (by simp))]; exact ih (fun x hx => h x (by simp [hx]))
theorem fine_iff (lines : List S50) (books : List S52) (win : Int) : checkOf lines books win = 0 ↔ Fine lines books win := by
  unfold checkOf
  constructor
  · intro h
    split at h
    · cases h
    · split at h
      · cases h
      · have ha := firstOf_zero _ h
        refine ⟨by omega, by omega, by omega, by omega, fun x hx => wrongOf_zero (ha _ ?_), fun x hx => wrongOf_zero (ha _ ?_)⟩
        · exact List.mem_append_left _ (List.mem_map.2 ⟨x, hx, rfl⟩)
        · exact List.mem_append_right _ (List.mem_map.2 ⟨x, hx, rfl⟩)
  · intro h
    rw [if_neg (by have := h.w0; have := h.w1; omega), if_neg (by have := h.l; have := h.b; omega)]
    refine firstOf_all _ (fun x hx => ?_)
    rcases List.mem_append.1 hx with hx | hx
    · obtain ⟨y, hy, rfl⟩ := List.mem_map.1 hx
      exact wrongOf_ok (h.ld y hy).1 (h.ld y hy).2
    · obtain ⟨y, hy, rfl⟩ := List.mem_map.1 hx
      exact wrongOf_ok (h.bd y hy).1 (h.bd y hy).2
def ints (n : Nat) : List Int := (List.range n).map (fun (j : Nat) => (j : Int))
theorem ints_drop {n i : Nat} (h : i < n) : (ints n).drop i = (i : Int) :: (ints n).drop (i + 1) := by
  have hl : (ints n).length = n := by simp [ints]
  rw [List.drop_eq_getElem_cons (by rw [hl]; exact h)]
  simp [ints]
theorem ints_len (n : Nat) : (ints n).length = n := by simp [ints]
def isNamed (books : List S52) (u : List Bool) (l : S50) (z : Int) : Bool := (rd_T52 books z).f3.toList == l.f2.toList && ((rd_T52 books z).f2 == l.f1 && !rdOf false u z)
theorem none_get (books : List S52) (z : Int) : rdOf false (noneUsed books) z = false := by
  unfold rdOf noneUsed
  rw [List.getD_eq_getElem?_getD, List.getElem?_replicate]
  split <;> rfl
theorem pickA_eq (books : List S52) (u : List Bool) (l : S50) : pickA books u l = if l.f2.toList = [] then [] else pickOf ((ints books.length).find? (isNamed books u l)) := by
  unfold pickA pickSame
  by_cases h : l.f2.toList = []
  · rw [if_pos h, if_pos h]
  · rw [if_neg h, if_neg h]
    unfold refsTo ints
    rw [List.find?_map, List.find?_filter, List.find?_map]
    congr 3
    funext j
    have hb : (l.f2.toList != []) = true := bne_iff_ne.mpr h
    simp only [Function.comp, none_get, hb, Bool.not_false, Bool.true_and, Bool.and_true, isNamed, isSame]
    cases (rd_T52 books (j : Int)).f3.toList == l.f2.toList <;> cases (rd_T52 books (j : Int)).f2 == l.f1 <;> cases rdOf false u (j : Int) <;> rfl
theorem apt_range (a b : Int) (ha : 0 ≤ a ∧ a ≤ 109572) (hb : 0 ≤ b ∧ b ≤ 109572) : apt a b = if a < b then b - a else a - b := by
  unfold apt mx
  rw [w64s (x := a - b) (by omega) (by omega), w64s (x := b - a) (by omega) (by omega)]
  by_cases h : a < b
  · rw [if_pos h, if_pos (by omega)]
  · rw [if_neg h, if_neg (by omega)]
theorem rd52_mem {books : List S52} {i : Nat} (h : i < books.length) : rd_T52 books (i : Int) ∈ books := by
  rw [show rd_T52 books (i : Int) = books[i] by simp [rd_T52, h]]; exact List.getElem_mem h
theorem rd50_mem {lines : List S50} {i : Nat} (h : i < lines.length) : rd_T50 lines (i : Int) ∈ lines := by
  rw [show rd_T50 lines (i : Int) = lines[i] by simp [rd_T50, h]]; exact List.getElem_mem h
/-- What the search for the nearest line holds: nothing yet, or a line within the window. -/
theorem nearTo_best (books : List S52) (u : List Bool) (win : Int) (l : S50) (hw : 0 ≤ win ∧ win ≤ 366) : ∀ k, ((nearTo books u win l k).1 = -1 ∧ (nearTo books u win l k).2 = win + 1) ∨ ((0 ≤ (nearTo books u win l k).1 ∧ (nearTo books u win l k).1 < k) ∧ (nearTo books u win l k).2 = apt (rd_T52 books (nearTo books u win l k).1).f1 l.f0 ∧ (nearTo books u win l k).2 ≤ win)
  | 0 => .inl ⟨rfl, by show wrap64 (win + 1) = _; rw [w64 (by omega) (by omega)]⟩
  | k + 1 => by
    have ih := nearTo_best books u win l hw k
    rw [nearTo_succ]
    unfold nearStep
    by_cases hc : (!rdOf false u (k : Int) && (rd_T52 books (k : Int)).f2 == l.f1 && decide (apt (rd_T52 books (k : Int)).f1 l.f0 < (nearTo books u win l k).2)) = true
    · rw [if_pos hc]
      simp at hc
      right
      refine ⟨by constructor <;> simp <;> omega, rfl, ?_⟩
      rcases ih with h | h
      · have := hc.2; simp; omega
      · have := hc.2; simp; omega
    · rw [if_neg hc]
      rcases ih with h | h
      · exact .inl h
      · exact .inr ⟨by omega, h.2.1, h.2.2⟩
theorem pickOf_len (o : Option Int) : (pickOf o).length ≤ 1 := by cases o <;> simp [pickOf]
theorem pickA_len (books : List S52) (u : List Bool) (l : S50) : (pickA books u l).length ≤ 1000000 := by
  rw [pickA_eq]
  split
  · simp
  · have := pickOf_len ((ints books.length).find? (isNamed books u l)); omega
theorem pickB_len (books : List S52) (win : Int) (u : List Bool) (l : S50) : (pickB books win u l).length ≤ 1000000 := by
  unfold pickB pickNear
  split <;> simp
theorem pickC_len (books : List S52) (u0 : List Bool) (hb : books.length ≤ 4000) (u : List Bool) (l : S50) : (pickC books u0 u l).length ≤ 1000000 := by
  unfold pickC pickGroup
  have h1 : (unusedOf u (refsTo books u0 books.length l.f2)).length ≤ 4000 := by
    unfold unusedOf
    have h2 := List.length_filter_le (fun z => !(rdOf false u z)) (refsTo books u0 books.length l.f2)
    have h3 := refsTo_len books u0 books.length l.f2
    omega
  split
  · simp
  · split
    · simp
    · split
      · omega
      · simp
theorem rd54_mem {l : List S54} {i : Nat} (h : i < l.length) : rd_T54 l (i : Int) ∈ l := by
  rw [show rd_T54 l (i : Int) = l[i] by simp [rd_T54, h]]; exact List.getElem_mem h
theorem outTo_mem {f : Int → List Int} {x : S54} : ∀ {k : Nat}, x ∈ outTo f k → ∃ i : Nat, i < k ∧ x = ⟨(i : Int), f (i : Int)⟩ ∧ f (i : Int) ≠ []
  | k + 1, h => by
    rcases List.mem_append.1 (show x ∈ outTo f k ++ (if f (k : Int) = [] then [] else [⟨(k : Int), f (k : Int)⟩]) from h) with h | h
    · obtain ⟨i, hi, h1, h2⟩ := outTo_mem h
      exact ⟨i, by omega, h1, h2⟩
    · by_cases e : f (k : Int) = []
      · rw [if_pos e] at h; simp at h
      · rw [if_neg e] at h
        simp at h
        exact ⟨k, by omega, h, e⟩
theorem pass_short (pick : List Bool → S50 → List Int) (hlen : ∀ u l, (pick u l).length ≤ 1000000) (lines : List S50) (st : List Bool × (Int → List Int)) (h : ∀ j, (st.2 j).length ≤ 1000000) : ∀ (k : Nat) (j : Int), ((pass pick lines st k).2 j).length ≤ 1000000
  | 0, j => h j
  | k + 1, j => by
    have ih := pass_short pick hlen lines st h k j
    show ((stepOf pick lines (pass pick lines st k) k).2 j).length ≤ _
    unfold stepOf
    split
    · show (upd _ _ _ j).length ≤ _
      unfold upd
      split
      · exact hlen _ _
      · exact ih
    · exact ih
theorem short_C (lines : List S50) (books : List S52) (win : Int) (hb : books.length ≤ 4000) (k : Nat) (j : Int) : ((passC lines books win k).2 j).length ≤ 1000000 :=
  pass_short _ (pickC_len books _ hb) _ _ (pass_short _ (pickB_len books win) _ _ (pass_short _ (pickA_len books) _ _ (fun j => by simp) _) _) k j
theorem runOf_short (lines : List S50) (books : List S52) (win : Int) (hb : books.length ≤ 4000) : ∀ x ∈ runOf lines books win, x.f1.length ≤ 1000000 := by
  intro x hx
  obtain ⟨i, _, rfl, _⟩ := outTo_mem hx
  exact short_C lines books win hb _ _
theorem runOf_len (lines : List S50) (books : List S52) (win : Int) : (runOf lines books win).length ≤ lines.length := outTo_len _ _
end Go.Proofs.YtinfcbfdeacllaaDoor.Sp
