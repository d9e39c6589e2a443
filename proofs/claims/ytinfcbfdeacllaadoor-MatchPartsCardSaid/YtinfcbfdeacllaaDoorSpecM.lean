/- Texts of mine, joined: SpecG, SpecL, SpecF, SpecQ. -/
import Derived.Test.YtinfcbfdeacllaaDoorSpecK
import Derived.Test.YtinfcbfdeacllaaDoorHandJ
import Derived.Test.YtinfcbfdeacllaaDoorPx11
import Derived.Test.YtinfcbfdeacllaaDoorPxK
import Derived.Test.YtinfcbfdeacllaaDoorPx32
import Derived.Test.YtinfcbfdeacllaaDoorPxL
import Derived.Test.YtinfcbfdeacllaaDoorPx31
/- What match.Run finds is right. -/
namespace Go.Proofs.YtinfcbfdeacllaaDoor.Sp
open Go.RowKit Go.Proofs.YtinfcbfdeacllaaDoor.P Go.Proofs.YtinfcbfdeacllaaDoorW.PrintWords Go.Proofs.YtinfcbfdeacllaaDoorW.PrintLast
set_option linter.unusedVariables false
set_option linter.unusedSimpArgs false
/-- What a pick is for a line: ascending, and of the line's amount. -/
def FitAt (books : List S52) (l : S50) (zs : List Int) : Prop := zs.Pairwise (· < ·) ∧ (zs = [] ∨ (amts books zs).sum = l.f1)
theorem fit_nil (books : List S52) (l : S50) : FitAt books l [] := ⟨.nil, .inl rfl⟩
theorem pass_fit (books : List S52) (pick : List Bool → S50 → List Int) (hp : ∀ u l, FitAt books l (pick u l)) (lines : List S50) (st : List Bool × (Int → List Int)) (h : ∀ i : Nat, FitAt books (rd_T50 lines (i : Int)) (st.2 (i : Int))) : ∀ (k i : Nat), FitAt books (rd_T50 lines (i : Int)) ((pass pick lines st k).2 (i : Int))
  | 0, i => h i
  | k + 1, i => by
    have ih := pass_fit books pick hp lines st h k i
    show FitAt _ _ ((stepOf pick lines (pass pick lines st k) k).2 (i : Int))
    unfold stepOf
    split
    · show FitAt _ _ (upd _ _ _ (i : Int))
      unfold upd
      split
      · rename_i e
        rw [e]
        exact hp _ _
      · exact ih
    · exact ih
theorem pickA_fit (books : List S52) (u : List Bool) (l : S50) : FitAt books l (pickA books u l) := by
  unfold pickA pickSame
  split
  · exact fit_nil _ _
  · cases hf : (refsTo books (noneUsed books) books.length l.f2).find? (isSame books u l) with
    | none => exact fit_nil _ _
    | some z =>
      refine ⟨List.pairwise_singleton _ _, .inr ?_⟩
      have := List.find?_some hf
      unfold isSame at this
      simp at this
      simp [amts, pickOf, this.2]
theorem pickB_fit (books : List S52) (win : Int) (u : List Bool) (l : S50) : FitAt books l (pickB books win u l) := by
  unfold pickB pickNear
  split
  · exact fit_nil _ _
  · rename_i hn
    refine ⟨List.pairwise_singleton _ _, .inr ?_⟩
    have := (nearTo_unused books u win l books.length (by omega)).2
    simp [amts, this]
theorem amt_bd {lines : List S50} {books : List S52} {win : Int} (hf : Fine lines books win) (z : Int) : -1000000000000 ≤ (rd_T52 books z).f2 ∧ (rd_T52 books z).f2 ≤ 1000000000000 := by
  unfold rd_T52
  by_cases hz : z.toNat < books.length
  · rw [show books.getD z.toNat z52 = books[z.toNat] by simp [hz]]
    exact (hf.bd _ (List.getElem_mem hz)).2
  · rw [show books.getD z.toNat z52 = z52 by simp [hz]]
    decide
theorem gsum_sum {lines : List S50} {books : List S52} {win : Int} (hf : Fine lines books win) : ∀ (zs : List Int) (s : Int) (n : Nat), zs.length + n ≤ 4000 → -(1000000000000 * (n : Int)) ≤ s → s ≤ 1000000000000 * (n : Int) → zs.foldl (fun s z => wrap64 (s + (rd_T52 books z).f2)) s = s + (amts books zs).sum
  | [], s, n, _, _, _ => by simp [amts]
  | z :: r, s, n, hl, h1, h2 => by
    have hb := amt_bd hf z
    rw [List.length_cons] at hl
    rw [List.foldl_cons, w64s (x := s + (rd_T52 books z).f2) (by omega) (by omega), gsum_sum hf r _ (n + 1) (by omega) (by push_cast; omega) (by push_cast; omega)]
    simp [amts]
    omega
theorem refsTo_pw (books : List S52) (u : List Bool) (k : Nat) (s : ByteArray) : (refsTo books u k s).Pairwise (· < ·) := by
  unfold refsTo
  refine List.Pairwise.map _ (fun a b (h : a < b) => by omega) ?_
  exact List.Pairwise.filter _ List.pairwise_lt_range
theorem refsTo_len (books : List S52) (u : List Bool) (k : Nat) (s : ByteArray) : (refsTo books u k s).length ≤ k := by
  unfold refsTo
  rw [List.length_map]
  exact Nat.le_trans (List.length_filter_le _ _) (by simp)
theorem pickC_fit {lines : List S50} {books : List S52} {win : Int} (hf : Fine lines books win) (u0 u : List Bool) (l : S50) : FitAt books l (pickC books u0 u l) := by
  unfold pickC pickGroup
  split
  · exact fit_nil _ _
  · split
    · exact fit_nil _ _
    · split
      · rename_i h
        refine ⟨List.Pairwise.filter _ (refsTo_pw _ _ _ _), .inr ?_⟩
        have hl : (unusedOf u (refsTo books u0 books.length l.f2)).length ≤ 4000 := by
          refine Nat.le_trans (List.length_filter_le _ _) (Nat.le_trans (refsTo_len _ _ _ _) hf.b)
        have := gsum_sum hf (unusedOf u (refsTo books u0 books.length l.f2)) 0 0 (by omega) (by simp) (by simp)
        unfold gsum at h
        rw [this] at h
        simpa using h
      · exact fit_nil _ _
theorem fitC {lines : List S50} {books : List S52} {win : Int} (hf : Fine lines books win) (k i : Nat) : FitAt books (rd_T50 lines (i : Int)) ((passC lines books win k).2 (i : Int)) :=
  pass_fit books _ (pickC_fit hf _) lines _ (pass_fit books _ (pickB_fit books win) lines _ (pass_fit books _ (pickA_fit books) lines _ (fun i => fit_nil _ _) _) _) k i
/-! ### The matches, one behind the other -/
def Apart2 (x y : S54) : Prop := x.f0 < y.f0 ∧ ∀ z ∈ x.f1, z ∉ y.f1
theorem outTo_pw (f : Int → List Int) (hd : ∀ i j z, z ∈ f i → z ∈ f j → i = j) : ∀ k, (outTo f k).Pairwise Apart2
  | 0 => .nil
  | k + 1 => by
    show (outTo f k ++ (if f (k : Int) = [] then [] else [(⟨(k : Int), f (k : Int)⟩ : S54)])).Pairwise Apart2
    rw [List.pairwise_append]
    refine ⟨outTo_pw f hd k, by split <;> simp, fun a ha b hb => ?_⟩
    obtain ⟨i, hi, rfl, _⟩ := outTo_mem ha
    split at hb
    · simp at hb
    · simp at hb
      subst hb
      refine ⟨by show (i : Int) < (k : Int); omega, fun z h1 h2 => ?_⟩
      have := hd _ _ z h1 h2
      omega
theorem sortedB_of (zs : List Int) (h : zs.Pairwise (· < ·)) : sortedB zs = true := by
  unfold sortedB
  rw [List.all_eq_true]
  intro i hi
  have hi := List.mem_range.1 hi
  by_cases h0 : i = 0
  · simp [h0]
  · have := List.pairwise_iff_getElem.1 h (i - 1) i (by omega) hi (by omega)
    have e1 : rd zs (i : Int) = zs[i] := by simp [rd, hi]
    have e2 : rd zs ((i : Int) - 1) = zs[i - 1] := by
      unfold rd
      rw [show ((i : Int) - 1).toNat = i - 1 by omega]
      simp [show i - 1 < zs.length by omega]
    rw [e1, e2, decide_eq_true (by omega), Bool.or_true]
theorem takeAll_some : ∀ (zs : List Int) (u : List Bool), zs.Pairwise (· < ·) → (∀ z ∈ zs, (0 ≤ z ∧ z < u.length) ∧ rdOf false u z = false) → takeAll u zs = some (P.mark u zs)
  | [], u, _, _ => rfl
  | z :: r, u, hp, h => by
    obtain ⟨⟨z0, z1⟩, zf⟩ := h z (by simp)
    obtain ⟨hp1, hp2⟩ := List.pairwise_cons.1 hp
    show (if free u z = true then takeAll (u.set z.toNat true) r else none) = some (P.mark (u.set z.toNat true) r)
    rw [if_pos (by unfold free; rw [decide_eq_true z0, decide_eq_true z1, zf]; rfl)]
    refine takeAll_some r _ hp2 (fun y hy => ?_)
    obtain ⟨⟨y0, y1⟩, yf⟩ := h y (by simp [hy])
    have := hp1 y hy
    refine ⟨⟨y0, by rw [List.length_set]; exact y1⟩, ?_⟩
    rw [rdOf_set u z y z0 y0 z1, yf, decide_eq_false (by omega)]
    rfl
def OneOk (lines : List S50) (books : List S52) (x : S54) : Prop := (0 ≤ x.f0 ∧ x.f0 < lines.length) ∧ x.f1 ≠ [] ∧ x.f1.Pairwise (· < ·) ∧ (∀ z ∈ x.f1, 0 ≤ z ∧ z < books.length) ∧ sumAt lines books x = true
theorem rd54_at {m : List S54} {k : Nat} (h : k < m.length) : rd_T54 m (k : Int) = m[k] := by simp [rd_T54, h]
theorem right_ok (lines : List S50) (books : List S52) (m : List S54) (hA : ∀ x ∈ m, OneOk lines books x) (hB : m.Pairwise Apart2) : ∀ (c k : Nat) (u : List Bool), m.length - k = c → k ≤ m.length → u.length = books.length → (∀ j : Nat, k ≤ j → j < m.length → ∀ z ∈ (rd_T54 m (j : Int)).f1, rdOf false u z = false) → rightFrom lines books m c k u = true
  | 0, _, _, _, _, _, _ => rfl
  | c + 1, k, u, hc, hk, hu, hz => by
    have hlt : k < m.length := by omega
    obtain ⟨h1, h2, h3, h4, h5⟩ := hA _ (rd54_mem hlt)
    have hok : okAt lines m k = true := by
      unfold okAt
      rw [decide_eq_true h1.1, decide_eq_true h1.2, sortedB_of _ h3, decide_eq_true (show (rd_T54 m (k : Int)).f1.length ≠ 0 from fun e => h2 (List.length_eq_zero_iff.1 e))]
      by_cases h0 : k = 0
      · simp [h0]
      · have := (List.pairwise_iff_getElem.1 hB (k - 1) k (by omega) hlt (by omega)).1
        have e : rd_T54 m ((k : Int) - 1) = m[k - 1] := by rw [show (k : Int) - 1 = ((k - 1 : Nat) : Int) by omega]; exact rd54_at _
        rw [e, rd54_at hlt, decide_eq_true this]
        simp
    have hta := takeAll_some (rd_T54 m (k : Int)).f1 u h3 (fun z hzz => And.intro (by rw [hu]; exact h4 z hzz) (hz k (Nat.le_refl _) hlt z hzz))
    show (if okAt lines m k = true then (match takeAll u (rd_T54 m (k : Int)).f1 with | none => false | some u' => if sumAt lines books (rd_T54 m (k : Int)) = true then rightFrom lines books m c (k + 1) u' else false) else false) = true
    rw [if_pos hok, hta]
    show (if sumAt lines books (rd_T54 m (k : Int)) = true then rightFrom lines books m c (k + 1) (P.mark u (rd_T54 m (k : Int)).f1) else false) = true
    rw [if_pos h5]
    refine right_ok lines books m hA hB c (k + 1) _ (by omega) (by omega) (by rw [mark_len]; exact hu) (fun j hj hjl z hzz => ?_)
    have hzj := (hA _ (rd54_mem hjl)).2.2.2.1 z hzz
    rw [mark_get _ _ (fun y hy => by rw [hu]; exact h4 y hy) z hzj.1, hz j (by omega) hjl z hzz]
    have := (List.pairwise_iff_getElem.1 hB k j hlt hjl (by omega)).2 z
    rw [rd54_at hlt]
    rw [rd54_at hjl] at hzz
    simp
    exact fun hc => this hc hzz
theorem run_right {lines : List S50} {books : List S52} {win : Int} (hf : Fine lines books win) : rightFrom lines books (runOf lines books win) (runOf lines books win).length 0 (List.replicate books.length false) = true := by
  have hg := goodC lines books win lines.length
  refine right_ok lines books (runOf lines books win) (fun x hx => ?_) (outTo_pw _ hg.dis _) _ 0 _ (by omega) (Nat.zero_le _) (by simp) (fun j _ _ z hz => none_get books z)
  obtain ⟨i, hi, rfl, hne⟩ := outTo_mem hx
  have ft := fitC hf lines.length i
  have hs : (amts books ((passC lines books win lines.length).2 (i : Int))).sum = (rd_T50 lines (i : Int)).f1 := ft.2.resolve_left hne
  have hb := (hf.ld _ (rd50_mem hi)).2
  refine ⟨⟨by show (0 : Int) ≤ (i : Int); omega, by show (i : Int) < _; omega⟩, hne, ft.1, fun z hz => hg.rng _ z hz, ?_⟩
  unfold sumAt
  show (decide (i64ok (amts books ((passC lines books win lines.length).2 (i : Int))).sum) && decide ((amts books ((passC lines books win lines.length).2 (i : Int))).sum = (rd_T50 lines (i : Int)).f1)) = true
  rw [hs, decide_eq_true rfl, decide_eq_true (show i64ok _ by unfold i64ok; omega)]
  rfl
theorem wf_range {n : Int} (h : (Lit.int .i64 n).wf = true) : i64ok n := by
  have h : (decide (IntKind.i64.min ≤ n) && decide (n ≤ IntKind.i64.max)) = true := h
  rw [Bool.and_eq_true, decide_eq_true_iff, decide_eq_true_iff] at h
  exact ⟨h.1, h.2⟩
theorem right_some (lines : List S50) (books : List S52) (m : List S54) (h1 : ∀ x ∈ m, x.f1.length ≤ 1000000) (h2 : ∀ b ∈ books, i64ok b.f2) (h3 : m.length ≤ 1000000) (h4 : books.length ≤ 1000000) : match_Right.f lines books m = some (rightFrom lines books m m.length 0 (List.replicate books.length false)) := by
  unfold match_Right.f
  rw [if_pos ⟨fun x hx => Nat.le_trans (h1 x hx) (by omega), h2, h3, h4⟩]
end Go.Proofs.YtinfcbfdeacllaaDoor.Sp

/- What is left unmatched. -/
namespace Go.Proofs.YtinfcbfdeacllaaDoor.Sp
open Go.RowKit Go.Proofs.YtinfcbfdeacllaaDoor.P Go.Proofs.YtinfcbfdeacllaaDoorW.PrintWords Go.Proofs.YtinfcbfdeacllaaDoorW.PrintLast
set_option linter.unusedVariables false
set_option linter.unusedSimpArgs false
/-! ### Rest -/
def unm (u : List Bool) : List Int := ((List.range u.length).filter (fun (j : Nat) => !rdOf false u (j : Int))).map (fun (j : Nat) => (j : Int))
theorem mark_eq (u : List Bool) (z : Int) (hz : 0 ≤ z) : ∃ b, match_mark.f u z = some (b, u.set z.toNat true) := by
  unfold match_mark.f
  rw [if_neg (show ¬ z < 0 by omega)]
  by_cases h : z ≥ (u.length : Int)
  · rw [if_pos h, List.set_eq_of_length_le (by omega)]
    exact ⟨_, rfl⟩
  · rw [if_neg h, if_pos hz, if_pos (by omega)]
    by_cases hb : rdOf false u z = true
    · rw [if_pos hb]
      have : u.set z.toNat true = u := by
        unfold rdOf at hb
        have hl : z.toNat < u.length := by omega
        refine List.ext_getElem (by simp) (fun i h1 h2 => ?_)
        rw [List.getElem_set]
        split
        · rename_i e
          subst e
          simpa [hl] using hb.symm
        · rfl
      rw [this]
      exact ⟨_, rfl⟩
    · rw [if_neg hb]
      exact ⟨_, rfl⟩
theorem unm_l0 (u : List Bool) (hu : u.length ≤ 1000000) : ∀ (n i : Nat) (acc : List Int), u.length - i = n → i ≤ u.length → acc.length ≤ i → Ev (fun k => match_unmarked.l0 k acc u (u.length : Int) (i : Int)) (acc ++ (((List.range u.length).drop i).filter (fun (j : Nat) => !rdOf false u (j : Int))).map (fun (j : Nat) => (j : Int))) := by
  intro n
  induction n with
  | zero =>
    intro i acc hn hi ha
    refine Ev.step (fun k => match_unmarked.l0.eq_2 _ _ _ _ k) ?_
    simp only [if_neg (show ¬ ((i : Int) < (u.length : Int)) by omega)]
    rw [List.drop_eq_nil_of_le (by simp; omega)]
    simp only [List.filter_nil, List.map_nil, List.append_nil]
    exact Ev.now _
  | succ n ih =>
    intro i acc hn hi ha
    have hw : wrap64 ((i : Int) + 1) = ((i + 1 : Nat) : Int) := by rw [w64 (by omega) (by omega)]; omega
    have hd : (List.range u.length).drop i = i :: (List.range u.length).drop (i + 1) := by
      rw [List.drop_eq_getElem_cons (by simp; omega)]
      simp
    refine Ev.step (fun k => match_unmarked.l0.eq_2 _ _ _ _ k) ?_
    simp only [if_pos (show ((i : Int) < (u.length : Int)) by omega), if_pos (show (0 : Int) ≤ (i : Int) by omega), if_pos (show acc.length < 17592186044416 by omega), hw]
    rw [hd, List.filter_cons]
    by_cases hb : rdOf false u (i : Int) = true
    · simp only [hb, if_true, Bool.not_true, Bool.false_eq_true, if_false]
      exact ih (i + 1) acc (by omega) (by omega) (by omega)
    · simp only [hb, if_false, Bool.not_false, if_true, Bool.false_eq_true]
      have := ih (i + 1) (acc ++ [(i : Int)]) (by omega) (by omega) (by simp; omega)
      simpa using this
theorem unm_ev (u : List Bool) (hu : u.length ≤ 1000000) : Ev (fun k => match_unmarked.f k u) (unm u) := by
  have := unm_l0 u hu _ 0 [] rfl (Nat.zero_le _) (Nat.zero_le _)
  simpa [match_unmarked.f, unm] using this
def restOf (n k : Nat) (m : List S54) : List Int × List Int := (unm (P.mark (List.replicate n false) (m.map (·.f0))), unm (P.mark (List.replicate k false) (m.flatMap (·.f1))))
theorem P_mark_app (u : List Bool) (a b : List Int) : P.mark u (a ++ b) = P.mark (P.mark u a) b := by unfold P.mark; rw [List.foldl_append]
theorem rest_l1 (m : List S54) (hm : m.length ≤ 1000000) (uA : List Bool) (i : Nat) (hi : i < m.length) (r : List Int × List Int) (xs : List Int) (hx : xs.length ≤ 1000000) (hxs : ∀ z ∈ xs, 0 ≤ z) (u0 : List Bool) (hnext : Ev (fun k => match_Rest.l0 k uA (P.mark u0 xs) m (m.length : Int) ((i + 1 : Nat) : Int)) r) :
    ∀ (n j : Nat), xs.length - j = n → j ≤ xs.length → Ev (fun k => match_Rest.l1 k uA (P.mark u0 (xs.take j)) m (m.length : Int) (i : Int) xs (xs.length : Int) (j : Int)) r := by
  intro n
  induction n with
  | zero =>
    intro j hn hj
    have hw : wrap64 ((i : Int) + 1) = ((i + 1 : Nat) : Int) := by rw [w64 (by omega) (by omega)]; omega
    refine Ev.step (fun k => match_Rest.l1.eq_2 _ _ _ _ _ _ _ _ k) ?_
    simp only [if_neg (show ¬ ((j : Int) < (xs.length : Int)) by omega), hw]
    rw [List.take_of_length_le (by omega)]
    exact hnext
  | succ n ih =>
    intro j hn hj
    have hw : wrap64 ((j : Int) + 1) = ((j + 1 : Nat) : Int) := by rw [w64 (by omega) (by omega)]; omega
    have hjl : j < xs.length := by omega
    have e : rd xs (j : Int) = xs[j] := by simp [rd, hjl]
    obtain ⟨b, hb⟩ := mark_eq (P.mark u0 (xs.take j)) (rd xs (j : Int)) (by rw [e]; exact hxs _ (List.getElem_mem hjl))
    refine Ev.step (fun k => match_Rest.l1.eq_2 _ _ _ _ _ _ _ _ k) ?_
    simp only [if_pos (show ((j : Int) < (xs.length : Int)) by omega), if_pos (show (0 : Int) ≤ (j : Int) by omega), hb, Option.bind_some, hw]
    have hs : (P.mark u0 (xs.take j)).set (rd xs (j : Int)).toNat true = P.mark u0 (xs.take (j + 1)) := by
      rw [List.take_add_one, List.getElem?_eq_getElem hjl, e]
      show _ = P.mark u0 (xs.take j ++ [xs[j]])
      rw [P_mark_app]
      rfl
    rw [hs]
    exact ih (j + 1) (by omega) (by omega)
section
variable (m : List S54) (hm : m.length ≤ 1000000) (h0 : ∀ x ∈ m, 0 ≤ x.f0) (h1 : ∀ x ∈ m, ∀ z ∈ x.f1, 0 ≤ z) (h2 : ∀ x ∈ m, x.f1.length ≤ 1000000)
include hm h0 h1 h2
theorem rest_l0 (uA uB : List Bool) (hA : uA.length ≤ 1000000) (hB : uB.length ≤ 1000000) : ∀ (n i : Nat), m.length - i = n → i ≤ m.length → Ev (fun k => match_Rest.l0 k (P.mark uA ((m.take i).map (·.f0))) (P.mark uB ((m.take i).flatMap (·.f1))) m (m.length : Int) (i : Int)) (unm (P.mark uA (m.map (·.f0))), unm (P.mark uB (m.flatMap (·.f1)))) := by
  intro n
  induction n with
  | zero =>
    intro i hn hi
    refine Ev.step (fun k => match_Rest.l0.eq_2 _ _ _ _ _ k) ?_
    simp only [if_neg (show ¬ ((i : Int) < (m.length : Int)) by omega)]
    rw [List.take_of_length_le (by omega)]
    refine (unm_ev _ (by rw [mark_len]; exact hA)).bind ?_
    refine (unm_ev _ (by rw [mark_len]; exact hB)).bind ?_
    exact Ev.now _
  | succ n ih =>
    intro i hn hi
    have hil : i < m.length := by omega
    have hx := rd54_mem hil
    have e : rd_T54 m (i : Int) = m[i] := by simp [rd_T54, hil]
    obtain ⟨b, hb⟩ := mark_eq (P.mark uA ((m.take i).map (·.f0))) (rd_T54 m (i : Int)).f0 (h0 _ hx)
    refine Ev.step (fun k => match_Rest.l0.eq_2 _ _ _ _ _ k) ?_
    simp only [if_pos (show ((i : Int) < (m.length : Int)) by omega), if_pos (show (0 : Int) ≤ (i : Int) by omega), hb, Option.bind_some]
    have ht : m.take (i + 1) = m.take i ++ [rd_T54 m (i : Int)] := by rw [List.take_add_one, List.getElem?_eq_getElem hil, e]; rfl
    have hs : (P.mark uA ((m.take i).map (·.f0))).set (rd_T54 m (i : Int)).f0.toNat true = P.mark uA ((m.take (i + 1)).map (·.f0)) := by
      rw [ht, List.map_append, P_mark_app]
      rfl
    rw [hs]
    refine rest_l1 m hm _ i hil _ (rd_T54 m (i : Int)).f1 (h2 _ hx) (h1 _ hx) _ ?_ _ 0 rfl (Nat.zero_le _)
    have := ih (i + 1) (by omega) (by omega)
    rw [show P.mark uB ((m.take (i + 1)).flatMap (·.f1)) = P.mark (P.mark uB ((m.take i).flatMap (·.f1))) (rd_T54 m (i : Int)).f1 by rw [ht, List.flatMap_append, P_mark_app]; simp] at this
    exact this
theorem rest_ev (lines : List S50) (books : List S52) (hl : lines.length ≤ 1000000) (hb : books.length ≤ 1000000) : Ev (fun k => match_Rest.f k lines books m) (restOf lines.length books.length m) := by
  unfold match_Rest.f restOf
  simp only [Int.toNat_natCast, if_pos (show (0 : Int) ≤ (lines.length : Int) by omega), if_pos (show (0 : Int) ≤ (books.length : Int) by omega), if_pos (show lines.length ≤ 281474976710656 by omega), if_pos (show books.length ≤ 281474976710656 by omega)]
  exact rest_l0 m hm h0 h1 h2 (List.replicate lines.length false) (List.replicate books.length false) (by simp; exact hl) (by simp; exact hb) _ 0 rfl (Nat.zero_le _)
end
theorem unm_mem {u : List Bool} {z : Int} : z ∈ unm u ↔ (0 ≤ z ∧ z < u.length) ∧ rdOf false u z = false := by
  unfold unm
  rw [List.mem_map]
  constructor
  · rintro ⟨j, hj, rfl⟩
    obtain ⟨h1, h2⟩ := List.mem_filter.1 hj
    have := List.mem_range.1 h1
    refine ⟨by omega, ?_⟩
    simpa using h2
  · rintro ⟨⟨h1, h2⟩, h3⟩
    refine ⟨z.toNat, List.mem_filter.2 ⟨List.mem_range.2 (by omega), ?_⟩, by omega⟩
    rw [show ((z.toNat : Nat) : Int) = z by omega, h3]
    rfl
theorem unm_len (u : List Bool) : (unm u).length ≤ u.length := by
  unfold unm
  rw [List.length_map]
  exact Nat.le_trans (List.length_filter_le _ _) (by simp)
/-! ### What the passes leave -/
theorem keeps_le (pick : List Bool → S50 → List Int) (lines : List S50) (st : List Bool × (Int → List Int)) (k : Nat) (j : Int) (h : (pass pick lines st k).2 j ≠ []) : ∀ d : Nat, (pass pick lines st (k + d)).2 j = (pass pick lines st k).2 j
  | 0 => rfl
  | d + 1 => by
    have ih := keeps_le pick lines st k j h d
    show (stepOf pick lines (pass pick lines st (k + d)) (k + d)).2 j = _
    unfold stepOf
    split
    · rename_i hk
      show upd _ _ _ j = _
      unfold upd
      by_cases e : j = ((k + d : Nat) : Int)
      · subst e; rw [ih] at hk; exact absurd hk h
      · rw [if_neg e]; exact ih
    · exact ih
theorem step_nil (pick : List Bool → S50 → List Int) (lines : List S50) (st : List Bool × (Int → List Int)) (a : Nat) : ∀ k : Nat, (pass pick lines st k).2 (a : Int) = [] → a < k → pick (pass pick lines st a).1 (rd_T50 lines (a : Int)) = []
  | 0, _, h => absurd h (by omega)
  | k + 1, hn, h => by
    have hn : (stepOf pick lines (pass pick lines st k) k).2 (a : Int) = [] := hn
    unfold stepOf at hn
    by_cases hk : (pass pick lines st k).2 (k : Int) = []
    · rw [if_pos hk] at hn
      have hn : upd (pass pick lines st k).2 (k : Int) (pick (pass pick lines st k).1 (rd_T50 lines (k : Int))) (a : Int) = [] := hn
      unfold upd at hn
      by_cases e : a = k
      · subst e
        rw [if_pos rfl] at hn
        exact hn
      · rw [if_neg (by omega)] at hn
        exact step_nil pick lines st a k hn (by omega)
    · rw [if_neg hk] at hn
      by_cases e : a = k
      · subst e; exact absurd hn hk
      · exact step_nil pick lines st a k hn (by omega)
theorem near_none (books : List S52) (u : List Bool) (win : Int) (l : S50) (hw : 0 ≤ win ∧ win ≤ 366) : ∀ k : Nat, (nearTo books u win l k).1 < 0 → ∀ b : Nat, b < k → rdOf false u (b : Int) = false → (rd_T52 books (b : Int)).f2 = l.f1 → ¬ apt (rd_T52 books (b : Int)).f1 l.f0 ≤ win
  | 0, _, _, h, _, _ => absurd h (by omega)
  | k + 1, hn, b, h, hu, ha => by
    rw [nearTo_succ] at hn
    unfold nearStep at hn
    by_cases hc : (!rdOf false u (k : Int) && (rd_T52 books (k : Int)).f2 == l.f1 && decide (apt (rd_T52 books (k : Int)).f1 l.f0 < (nearTo books u win l k).2)) = true
    · rw [if_pos hc] at hn
      simp at hn
      omega
    · rw [if_neg hc] at hn
      by_cases e : b = k
      · subst e
        rw [hu, ha] at hc
        simp at hc
        have := nearTo_best books u win l hw b
        omega
      · exact near_none books u win l hw k hn b (by omega) hu ha
theorem left_far {lines : List S50} {books : List S52} {win : Int} (hf : Fine lines books win) (a b : Nat) (ha : a < lines.length) (hb : b < books.length) (hea : (passC lines books win lines.length).2 (a : Int) = []) (heb : rdOf false (passC lines books win lines.length).1 (b : Int) = false) (hamt : (rd_T52 books (b : Int)).f2 = (rd_T50 lines (a : Int)).f1) : ¬ apt (rd_T52 books (b : Int)).f1 (rd_T50 lines (a : Int)).f0 ≤ win := by
  have hB : (passB lines books win lines.length).2 (a : Int) = [] := by
    by_cases h : (passB lines books win lines.length).2 (a : Int) = []
    · exact h
    · exact absurd ((pass_keeps _ lines _ (a : Int) h lines.length).symm.trans hea) h
  have hp : pickB books win (passB lines books win a).1 (rd_T50 lines (a : Int)) = [] := step_nil (pickB books win) lines _ a lines.length hB ha
  have hun : rdOf false (passB lines books win a).1 (b : Int) = false := by
    cases hv : rdOf false (passB lines books win a).1 (b : Int)
    · rfl
    · obtain ⟨i, hi⟩ := ((goodB lines books win a).use (b : Int) (by omega)).1 hv
      have hne : (passB lines books win a).2 i ≠ [] := fun e => by rw [e] at hi; simp at hi
      have h1 : (passB lines books win lines.length).2 i = (passB lines books win a).2 i := by
        have := keeps_le (pickB books win) lines (passA lines books lines.length) a i hne (lines.length - a)
        rw [show a + (lines.length - a) = lines.length by omega] at this
        exact this
      have h2 : (passC lines books win lines.length).2 i = (passB lines books win lines.length).2 i := pass_keeps _ lines _ i (by rw [h1]; exact hne) lines.length
      have := ((goodC lines books win lines.length).use (b : Int) (by omega)).2 ⟨i, by rw [h2, h1]; exact hi⟩
      rw [heb] at this
      cases this
  unfold pickB pickNear at hp
  split at hp
  · rename_i hn
    exact near_none books _ win _ ⟨hf.w0, hf.w1⟩ books.length hn b hb hun hamt
  · cases hp
theorem outTo_has (f : Int → List Int) (i : Nat) (h : f (i : Int) ≠ []) : ∀ k : Nat, i < k → (⟨(i : Int), f (i : Int)⟩ : S54) ∈ outTo f k
  | k + 1, hk => by
    show _ ∈ outTo f k ++ (if f (k : Int) = [] then [] else [(⟨(k : Int), f (k : Int)⟩ : S54)])
    by_cases e : i = k
    · subst e
      rw [if_neg h]
      simp
    · exact List.mem_append_left _ (outTo_has f i h k (by omega))
end Go.Proofs.YtinfcbfdeacllaaDoor.Sp

/- Rest and Right of any matches, and of the reference. -/
namespace Go.Proofs.YtinfcbfdeacllaaDoor.Sp
open Go.RowKit Go.Proofs.YtinfcbfdeacllaaDoor.P Go.Proofs.YtinfcbfdeacllaaDoorW.PrintWords Go.Proofs.YtinfcbfdeacllaaDoorW.PrintLast
set_option linter.unusedVariables false
set_option linter.unusedSimpArgs false
/-! ### Marks of any numbers -/
def mkS (u : List Bool) (z : Int) : List Bool := if z < 0 then u else u.set z.toNat true
def markS (u : List Bool) (zs : List Int) : List Bool := zs.foldl mkS u
theorem markS_app (u : List Bool) (a b : List Int) : markS u (a ++ b) = markS (markS u a) b := by unfold markS; rw [List.foldl_append]
theorem markS_len (u : List Bool) (zs : List Int) : (markS u zs).length = u.length := by
  unfold markS
  induction zs generalizing u with
  | nil => rfl
  | cons z r ih =>
    rw [List.foldl_cons, ih]
    unfold mkS
    split <;> simp
theorem mark_eqS (u : List Bool) (z : Int) : ∃ b, match_mark.f u z = some (b, mkS u z) := by
  by_cases h : z < 0
  · refine ⟨false, ?_⟩
    unfold match_mark.f mkS
    rw [if_pos h, if_pos h]
  · obtain ⟨b, hb⟩ := mark_eq u z (by omega)
    refine ⟨b, ?_⟩
    unfold mkS
    rw [if_neg h]
    exact hb
theorem mkS_get (u : List Bool) (y z : Int) (hz : 0 ≤ z ∧ z < u.length) : rdOf false (mkS u y) z = (rdOf false u z || decide (z = y)) := by
  unfold mkS
  by_cases h : y < 0
  · rw [if_pos h, decide_eq_false (by omega), Bool.or_false]
  · rw [if_neg h]
    by_cases hy : y < u.length
    · exact rdOf_set u y z (by omega) hz.1 hy
    · rw [List.set_eq_of_length_le (by omega), decide_eq_false (by omega), Bool.or_false]
theorem markS_get (u : List Bool) (p : List Int) (z : Int) (hz : 0 ≤ z ∧ z < u.length) : rdOf false (markS u p) z = (rdOf false u z || p.contains z) := by
  induction p generalizing u with
  | nil => simp [markS]
  | cons x r ih =>
    show rdOf false (markS (mkS u x) r) z = _
    have hl : (mkS u x).length = u.length := by unfold mkS; split <;> simp
    rw [ih (mkS u x) (by rw [hl]; exact hz), mkS_get u x z hz, List.contains_cons, Bool.or_assoc]
    congr 2
theorem markS_new (n : Nat) (p : List Int) (z : Int) (hz : 0 ≤ z ∧ z < n) : rdOf false (markS (List.replicate n false) p) z = p.contains z := by
  rw [markS_get _ _ z (by rw [List.length_replicate]; exact hz)]
  have : rdOf false (List.replicate n false) z = false := by
    unfold rdOf
    rw [List.getD_eq_getElem?_getD, List.getElem?_replicate]
    split <;> rfl
  rw [this, Bool.false_or]
/-! ### Rest -/
def leftOf (n : Nat) (p : List Int) : List Int := ((List.range n).filter (fun (j : Nat) => !p.contains (j : Int))).map (fun (j : Nat) => (j : Int))
theorem unm_left (n : Nat) (p : List Int) : unm (markS (List.replicate n false) p) = leftOf n p := by
  unfold unm leftOf
  rw [markS_len, List.length_replicate]
  congr 1
  refine List.filter_congr (fun j hj => ?_)
  have := List.mem_range.1 hj
  rw [markS_new n p (j : Int) (by omega)]
theorem leftOf_len (n : Nat) (p : List Int) : (leftOf n p).length ≤ n := by
  unfold leftOf
  rw [List.length_map]
  exact Nat.le_trans (List.length_filter_le _ _) (by simp)
section
variable (m : List S54) (hm : m.length ≤ 1000000) (h2 : ∀ x ∈ m, x.f1.length ≤ 9223372036854775807)
theorem restS_l1 (uA : List Bool) (i : Nat) (hi : i < m.length) (hm : m.length ≤ 1000000) (r : List Int × List Int) (xs : List Int) (hx : xs.length ≤ 9223372036854775807) (u0 : List Bool) (hnext : Ev (fun k => match_Rest.l0 k uA (markS u0 xs) m (m.length : Int) ((i + 1 : Nat) : Int)) r) :
    ∀ (n j : Nat), xs.length - j = n → j ≤ xs.length → Ev (fun k => match_Rest.l1 k uA (markS u0 (xs.take j)) m (m.length : Int) (i : Int) xs (xs.length : Int) (j : Int)) r := by
  intro n
  induction n with
  | zero =>
    intro j hn hj
    have hw : wrap64 ((i : Int) + 1) = ((i + 1 : Nat) : Int) := by rw [w64 (by omega) (by omega)]; omega
    refine Ev.step (fun k => match_Rest.l1.eq_2 _ _ _ _ _ _ _ _ k) ?_
    simp only [if_neg (show ¬ ((j : Int) < (xs.length : Int)) by omega), hw]
    rw [List.take_of_length_le (by omega)]
    exact hnext
  | succ n ih =>
    intro j hn hj
    have hjl : j < xs.length := by omega
    have hw : wrap64 ((j : Int) + 1) = ((j + 1 : Nat) : Int) := by rw [w64r (by omega) (by omega)]; omega
    have e : rd xs (j : Int) = xs[j] := by simp [rd, hjl]
    obtain ⟨b, hb⟩ := mark_eqS (markS u0 (xs.take j)) (rd xs (j : Int))
    refine Ev.step (fun k => match_Rest.l1.eq_2 _ _ _ _ _ _ _ _ k) ?_
    simp only [if_pos (show ((j : Int) < (xs.length : Int)) by omega), if_pos (show (0 : Int) ≤ (j : Int) by omega), hb, Option.bind_some, hw]
    have hs : mkS (markS u0 (xs.take j)) (rd xs (j : Int)) = markS u0 (xs.take (j + 1)) := by
      rw [List.take_add_one, List.getElem?_eq_getElem hjl, e]
      show _ = markS u0 (xs.take j ++ [xs[j]])
      rw [markS_app]
      rfl
    rw [hs]
    exact ih (j + 1) (by omega) (by omega)
include hm h2
theorem restS_l0 (uA uB : List Bool) (hA : uA.length ≤ 1000000) (hB : uB.length ≤ 1000000) : ∀ (n i : Nat), m.length - i = n → i ≤ m.length → Ev (fun k => match_Rest.l0 k (markS uA ((m.take i).map (·.f0))) (markS uB ((m.take i).flatMap (·.f1))) m (m.length : Int) (i : Int)) (unm (markS uA (m.map (·.f0))), unm (markS uB (m.flatMap (·.f1)))) := by
  intro n
  induction n with
  | zero =>
    intro i hn hi
    refine Ev.step (fun k => match_Rest.l0.eq_2 _ _ _ _ _ k) ?_
    simp only [if_neg (show ¬ ((i : Int) < (m.length : Int)) by omega)]
    rw [List.take_of_length_le (by omega)]
    refine (unm_ev _ (by rw [markS_len]; exact hA)).bind ?_
    refine (unm_ev _ (by rw [markS_len]; exact hB)).bind ?_
    exact Ev.now _
  | succ n ih =>
    intro i hn hi
    have hil : i < m.length := by omega
    have hx := rd54_mem hil
    have e : rd_T54 m (i : Int) = m[i] := by simp [rd_T54, hil]
    obtain ⟨b, hb⟩ := mark_eqS (markS uA ((m.take i).map (·.f0))) (rd_T54 m (i : Int)).f0
    refine Ev.step (fun k => match_Rest.l0.eq_2 _ _ _ _ _ k) ?_
    simp only [if_pos (show ((i : Int) < (m.length : Int)) by omega), if_pos (show (0 : Int) ≤ (i : Int) by omega), hb, Option.bind_some]
    have ht : m.take (i + 1) = m.take i ++ [rd_T54 m (i : Int)] := by rw [List.take_add_one, List.getElem?_eq_getElem hil, e]; rfl
    have hs : mkS (markS uA ((m.take i).map (·.f0))) (rd_T54 m (i : Int)).f0 = markS uA ((m.take (i + 1)).map (·.f0)) := by
      rw [ht, List.map_append, markS_app]
      rfl
    rw [hs]
    refine restS_l1 m _ i hil hm _ (rd_T54 m (i : Int)).f1 (h2 _ hx) _ ?_ _ 0 rfl (Nat.zero_le _)
    have := ih (i + 1) (by omega) (by omega)
    rw [show markS uB ((m.take (i + 1)).flatMap (·.f1)) = markS (markS uB ((m.take i).flatMap (·.f1))) (rd_T54 m (i : Int)).f1 by rw [ht, List.flatMap_append, markS_app]; simp] at this
    exact this
theorem restS_ev (lines : List S50) (books : List S52) (hl : lines.length ≤ 1000000) (hb : books.length ≤ 1000000) : Ev (fun k => match_Rest.f k lines books m) (leftOf lines.length (m.map (·.f0)), leftOf books.length (m.flatMap (·.f1))) := by
  unfold match_Rest.f
  simp only [Int.toNat_natCast, if_pos (show (0 : Int) ≤ (lines.length : Int) by omega), if_pos (show (0 : Int) ≤ (books.length : Int) by omega), if_pos (show lines.length ≤ 281474976710656 by omega), if_pos (show books.length ≤ 281474976710656 by omega)]
  have := restS_l0 m hm h2 (List.replicate lines.length false) (List.replicate books.length false) (by simp; exact hl) (by simp; exact hb) _ 0 rfl (Nat.zero_le _)
  rw [unm_left, unm_left] at this
  exact this
end
/-! ### The reference's Rest -/
theorem rdL6_drop2 {m : List (List Int)} {i : Nat} (h : i < m.length) : m.drop i = rd_L6 m (i : Int) :: m.drop (i + 1) := by
  rw [show rd_L6 m (i : Int) = m[i] by simp [rd_L6, h], List.drop_eq_getElem_cons h]
theorem rd_drop2 {r : List Int} {j : Nat} (h : j < r.length) : r.drop j = rd r (j : Int) :: r.drop (j + 1) := by
  rw [show rd r (j : Int) = r[j] by simp [rd, h], List.drop_eq_getElem_cons h]
theorem uses2_l1 (m : List (List Int)) (z : Int) (hm : m.length ≤ 1000000) (hr : ∀ r ∈ m, r.length ≤ 9223372036854775807) (i : Nat) (hi : i < m.length) (v : Bool) (hnext : Ev (fun k => accountingref49_uses.l0 k m z ((i + 1 : Nat) : Int)) v) :
    ∀ (n j : Nat), (rd_L6 m (i : Int)).length - j = n → j ≤ (rd_L6 m (i : Int)).length → Ev (fun k => accountingref49_uses.l1 k m z (i : Int) (j : Int)) (((rd_L6 m (i : Int)).drop j).contains z || v) := by
  have hrow : (rd_L6 m (i : Int)).length ≤ 9223372036854775807 := hr _ (by rw [show rd_L6 m (i : Int) = m[i] by simp [rd_L6, hi]]; exact List.getElem_mem hi)
  intro n
  induction n with
  | zero =>
    intro j hn hj
    refine Ev.step (fun k => accountingref49_uses.l1.eq_2 _ _ _ _ k) ?_
    have hw : wrap64 ((i : Int) + 1) = ((i + 1 : Nat) : Int) := by rw [w64 (by omega) (by omega)]; omega
    simp only [if_pos (show (0 : Int) ≤ (i : Int) by omega), if_pos (show ((i : Int) < (m.length : Int)) by omega), if_neg (show ¬ ((j : Int) < ((rd_L6 m (i : Int)).length : Int)) by omega), hw]
    rw [List.drop_of_length_le (by omega), List.contains_nil, Bool.false_or]
    exact hnext
  | succ n ih =>
    intro j hn hj
    refine Ev.step (fun k => accountingref49_uses.l1.eq_2 _ _ _ _ k) ?_
    have hw : wrap64 ((j : Int) + 1) = ((j + 1 : Nat) : Int) := by rw [w64r (by omega) (by omega)]; omega
    simp only [if_pos (show (0 : Int) ≤ (i : Int) by omega), if_pos (show ((i : Int) < (m.length : Int)) by omega), if_pos (show ((j : Int) < ((rd_L6 m (i : Int)).length : Int)) by omega), if_pos (show (0 : Int) ≤ (j : Int) by omega), hw]
    rw [rd_drop2 (show j < (rd_L6 m (i : Int)).length by omega), List.contains_cons]
    by_cases e : rd (rd_L6 m (i : Int)) (j : Int) = z
    · simp only [if_pos e]
      have : (z == rd (rd_L6 m (i : Int)) (j : Int)) = true := by rw [e]; simp
      rw [this, Bool.true_or, Bool.true_or]
      exact Ev.now _
    · simp only [if_neg e]
      have : (z == rd (rd_L6 m (i : Int)) (j : Int)) = false := beq_eq_false_iff_ne.mpr (fun h => e h.symm)
      rw [this, Bool.false_or]
      exact ih (j + 1) (by omega) (by omega)
theorem uses2_l0 (m : List (List Int)) (z : Int) (hm : m.length ≤ 1000000) (hr : ∀ r ∈ m, r.length ≤ 9223372036854775807) : ∀ (n i : Nat), m.length - i = n → i ≤ m.length → Ev (fun k => accountingref49_uses.l0 k m z (i : Int)) ((m.drop i).any (fun r => r.contains z)) := by
  intro n
  induction n with
  | zero =>
    intro i hn hi
    refine Ev.step (fun k => accountingref49_uses.l0.eq_2 _ _ _ k) ?_
    simp only [if_neg (show ¬ ((i : Int) < (m.length : Int)) by omega)]
    rw [List.drop_of_length_le (by omega)]
    exact Ev.now _
  | succ n ih =>
    intro i hn hi
    refine Ev.step (fun k => accountingref49_uses.l0.eq_2 _ _ _ k) ?_
    simp only [if_pos (show ((i : Int) < (m.length : Int)) by omega)]
    rw [rdL6_drop2 (show i < m.length by omega), List.any_cons]
    exact uses2_l1 m z hm hr i (by omega) _ (ih (i + 1) (by omega) (by omega)) _ 0 rfl (Nat.zero_le _)
theorem uses2_ev (m : List (List Int)) (z : Int) (hm : m.length ≤ 1000000) (hr : ∀ r ∈ m, r.length ≤ 9223372036854775807) : Ev (fun k => accountingref49_uses.f k m z) (m.any (fun r => r.contains z)) := uses2_l0 m z hm hr _ 0 rfl (Nat.zero_le _)
theorem rd54_drop {l : List S54} {i : Nat} (h : i < l.length) : l.drop i = rd_T54 l (i : Int) :: l.drop (i + 1) := by
  rw [show rd_T54 l (i : Int) = l[i] by simp [rd_T54, h], List.drop_eq_getElem_cons h]
theorem stated_ev (m : List S54) (z : Int) (hm : m.length ≤ 1000000) : Ev (fun k => accountingref49_stated.f k m z) ((m.map (·.f0)).contains z) := by
  have key : ∀ (n i : Nat), m.length - i = n → i ≤ m.length → Ev (fun k => accountingref49_stated.l0 k m z (i : Int)) (((m.drop i).map (·.f0)).contains z) := by
    intro n
    induction n with
    | zero =>
      intro i hn hi
      refine Ev.step (fun k => accountingref49_stated.l0.eq_2 _ _ _ k) ?_
      simp only [if_neg (show ¬ ((i : Int) < (m.length : Int)) by omega)]
      rw [List.drop_of_length_le (by omega)]
      exact Ev.now _
    | succ n ih =>
      intro i hn hi
      have hw : wrap64 ((i : Int) + 1) = ((i + 1 : Nat) : Int) := by rw [w64 (by omega) (by omega)]; omega
      refine Ev.step (fun k => accountingref49_stated.l0.eq_2 _ _ _ k) ?_
      simp only [if_pos (show ((i : Int) < (m.length : Int)) by omega), if_pos (show (0 : Int) ≤ (i : Int) by omega), hw]
      rw [rd54_drop (show i < m.length by omega), List.map_cons, List.contains_cons]
      by_cases e : (rd_T54 m (i : Int)).f0 = z
      · simp only [if_pos e]
        have : (z == (rd_T54 m (i : Int)).f0) = true := by rw [e]; simp
        rw [this, Bool.true_or]
        exact Ev.now _
      · simp only [if_neg e]
        have : (z == (rd_T54 m (i : Int)).f0) = false := beq_eq_false_iff_ne.mpr (fun h => e h.symm)
        rw [this, Bool.false_or]
        exact ih (i + 1) (by omega) (by omega)
  exact key _ 0 rfl (Nat.zero_le _)
theorem lists_ev (m : List S54) (hm : m.length ≤ 1000000) : Ev (fun k => accountingref49_lists.f k m) (m.map (·.f1)) := by
  have key : ∀ (n i : Nat), m.length - i = n → i ≤ m.length → Ev (fun k => accountingref49_lists.l0 k m ((m.take i).map (·.f1)) (i : Int)) (m.map (·.f1)) := by
    intro n
    induction n with
    | zero =>
      intro i hn hi
      refine Ev.step (fun k => accountingref49_lists.l0.eq_2 _ _ _ k) ?_
      simp only [if_neg (show ¬ ((i : Int) < (m.length : Int)) by omega)]
      rw [List.take_of_length_le (by omega)]
      exact Ev.now _
    | succ n ih =>
      intro i hn hi
      have hil : i < m.length := by omega
      have hw : wrap64 ((i : Int) + 1) = ((i + 1 : Nat) : Int) := by rw [w64 (by omega) (by omega)]; omega
      have e : rd_T54 m (i : Int) = m[i] := by simp [rd_T54, hil]
      have ht : m.take (i + 1) = m.take i ++ [rd_T54 m (i : Int)] := by rw [List.take_add_one, List.getElem?_eq_getElem hil, e]; rfl
      refine Ev.step (fun k => accountingref49_lists.l0.eq_2 _ _ _ k) ?_
      simp only [if_pos (show ((i : Int) < (m.length : Int)) by omega), if_pos (show (0 : Int) ≤ (i : Int) by omega), if_pos (show ((m.take i).map (·.f1)).length < 5864062014805 by rw [List.length_map, List.length_take]; omega), hw]
      have := ih (i + 1) (by omega) (by omega)
      rw [ht, List.map_append] at this
      exact this
  exact key _ 0 rfl (Nat.zero_le _)
theorem any_flat (m : List S54) (z : Int) : (m.map (·.f1)).any (fun r => r.contains z) = (m.flatMap (·.f1)).contains z := by
  induction m with
  | nil => rfl
  | cons x r ih =>
    rw [List.map_cons, List.any_cons, ih, List.flatMap_cons, Bool.eq_iff_iff, Bool.or_eq_true, List.contains_iff_mem, List.contains_iff_mem, List.contains_iff_mem, List.mem_append]
end Go.Proofs.YtinfcbfdeacllaaDoor.Sp

/- Right of any matches: the reference and the program agree. -/
namespace Go.Proofs.YtinfcbfdeacllaaDoor.Sp
open Go.RowKit Go.Proofs.YtinfcbfdeacllaaDoor.P Go.Proofs.YtinfcbfdeacllaaDoorW.PrintWords Go.Proofs.YtinfcbfdeacllaaDoorW.PrintLast
set_option linter.unusedVariables false
set_option linter.unusedSimpArgs false
theorem i64_low32 (n : Int) : bits .and .i64 n 4294967295 = n % 4294967296 := by
  have h : (BitVec.ofInt 64 4294967295).toNat = 2 ^ 32 - 1 := by decide
  have key : (BitVec.ofInt 64 n &&& BitVec.ofInt 64 4294967295).toNat = (n % ((2 ^ 64 : Nat) : Int)).toNat % 2 ^ 32 := by
    rw [BitVec.toNat_and, BitVec.toNat_ofInt, h, Nat.and_two_pow_sub_one_eq_mod]
  show IntKind.i64.wrap ((BitVec.ofInt 64 n &&& BitVec.ofInt 64 4294967295).toNat : Nat) = n % 4294967296
  rw [key, IntKind.wrap_i64]
  omega
theorem rd_at {l : List Int} {i : Nat} (h : i < l.length) : rd l (i : Int) = l[i] := by simp [rd, h]
theorem rsum_l0 (l : List Int) (hl : l.length ≤ 1000) (hok : ∀ x ∈ l, i64ok x) : ∀ (n i : Nat) (a b : Int), l.length - i = n → i ≤ l.length → a * 4294967296 + b = (l.take i).sum → -(2147483648 * (i : Int)) ≤ a → a ≤ 2147483648 * (i : Int) → 0 ≤ b → b ≤ 4294967296 * (i : Int) → Ev (fun k => accountingref01_Sum.l0 k l a b (i : Int)) (if i64ok l.sum then (l.sum, true) else (0, false)) := by
  intro n
  induction n with
  | zero =>
    intro i a b hn hi he h1 h2 h3 h4
    rw [List.take_of_length_le (by omega)] at he
    have w1 : wrap64 (a + b / 4294967296) = a + b / 4294967296 := w64s (by omega) (by omega)
    refine Ev.step (fun k => accountingref01_Sum.l0.eq_2 _ _ _ _ k) ?_
    simp only [if_neg (show ¬ ((i : Int) < (l.length : Int)) by omega), w1, i64_low32]
    by_cases c1 : a + b / 4294967296 < -2147483648
    · simp only [if_pos c1, if_neg (show ¬ i64ok l.sum by unfold i64ok; omega)]
      exact Ev.now _
    · simp only [if_neg c1]
      by_cases c2 : a + b / 4294967296 > 2147483647
      · simp only [if_pos c2, if_neg (show ¬ i64ok l.sum by unfold i64ok; omega)]
        exact Ev.now _
      · simp only [if_neg c2, if_pos (show i64ok l.sum by unfold i64ok; omega)]
        have w2 : wrap64 (wrap64 ((a + b / 4294967296) * 4294967296) + b % 4294967296) = l.sum := by
          unfold wrap64
          omega
        rw [w2]
        exact Ev.now _
  | succ n ih =>
    intro i a b hn hi he h1 h2 h3 h4
    have hil : i < l.length := by omega
    have hv := hok _ (List.getElem_mem hil)
    unfold i64ok at hv
    have hw : wrap64 ((i : Int) + 1) = ((i + 1 : Nat) : Int) := by rw [w64 (by omega) (by omega)]; omega
    have w1 : wrap64 (a + l[i] / 4294967296) = a + l[i] / 4294967296 := w64s (by omega) (by omega)
    have w2 : wrap64 (b + l[i] % 4294967296) = b + l[i] % 4294967296 := w64s (by omega) (by omega)
    refine Ev.step (fun k => accountingref01_Sum.l0.eq_2 _ _ _ _ k) ?_
    simp only [if_pos (show ((i : Int) < (l.length : Int)) by omega), if_pos (show (0 : Int) ≤ (i : Int) by omega), hw, rd_at hil, i64_low32, w1, w2]
    refine ih (i + 1) _ _ (by omega) (by omega) ?_ (by push_cast; omega) (by push_cast; omega) (by omega) (by push_cast; omega)
    have ht : l.take (i + 1) = l.take i ++ [l[i]] := by rw [List.take_add_one, List.getElem?_eq_getElem hil]; rfl
    have e : (l.take (i + 1)).sum = (l.take i).sum + l[i] := by rw [ht, List.sum_append, List.sum_cons, List.sum_nil, Int.add_zero]
    rw [e]
    omega
theorem rsum_ev (l : List Int) (hl : l.length ≤ 1000) (hok : ∀ x ∈ l, i64ok x) : Ev (fun k => accountingref01_Sum.f k l) (if i64ok l.sum then (l.sum, true) else (0, false)) :=
  rsum_l0 l hl hok _ 0 0 0 rfl (Nat.zero_le _) (by simp) (by simp) (by simp) (by simp) (by simp)
/-! ### One match -/
def AscTo (xs : List Int) (j : Nat) : Prop := ∀ i : Nat, 0 < i → i < j → rd xs ((i : Int) - 1) < rd xs (i : Int)
def RngTo (n : Nat) (xs : List Int) (j : Nat) : Prop := ∀ i : Nat, i < j → 0 ≤ rd xs (i : Int) ∧ rd xs (i : Int) < n
theorem asc_ge {n : Nat} {xs : List Int} {j : Nat} (ha : AscTo xs j) (hr : RngTo n xs j) : ∀ i : Nat, i < j → (i : Int) ≤ rd xs (i : Int)
  | 0, h => by
    have := (hr 0 h).1
    omega
  | i + 1, h => by
    have h1 := asc_ge ha hr i (by omega)
    have h2 := ha (i + 1) (by omega) h
    rw [show ((i + 1 : Nat) : Int) - 1 = (i : Int) by omega] at h2
    omega
theorem asc_le {n : Nat} {xs : List Int} {j : Nat} (ha : AscTo xs j) (hr : RngTo n xs j) : j ≤ n := by
  by_cases h : j = 0
  · omega
  · have := asc_ge ha hr (j - 1) (by omega)
    have := (hr (j - 1) (by omega)).2
    omega
theorem asc_lt {xs : List Int} {j : Nat} (ha : AscTo xs j) (i : Nat) : ∀ d : Nat, i + d + 1 < j → rd xs (i : Int) < rd xs ((i + d + 1 : Nat) : Int)
  | 0, h => by
    have h2 := ha (i + 1) (by omega) h
    rw [show ((i + 1 : Nat) : Int) - 1 = (i : Int) by omega] at h2
    exact h2
  | d + 1, h => by
    have h1 := asc_lt ha i d (by omega)
    have h2 := ha (i + (d + 1) + 1) (by omega) h
    rw [show ((i + (d + 1) + 1 : Nat) : Int) - 1 = ((i + d + 1 : Nat) : Int) by omega] at h2
    omega
theorem asc_iff (xs : List Int) : AscTo xs xs.length ↔ xs.Pairwise (· < ·) := by
  rw [List.pairwise_iff_getElem]
  constructor
  · intro h i j hi hj hij
    have := asc_lt h i (j - i - 1) (by omega)
    rw [show i + (j - i - 1) + 1 = j by omega, rd_at hi, rd_at hj] at this
    exact this
  · intro h i h0 hi
    have := h (i - 1) i (by omega) hi (by omega)
    rw [show (i : Int) - 1 = ((i - 1 : Nat) : Int) by omega, rd_at hi, rd_at (show i - 1 < xs.length by omega)]
    exact this
theorem rng_iff (n : Nat) (xs : List Int) : RngTo n xs xs.length ↔ ∀ z ∈ xs, 0 ≤ z ∧ z < n := by
  constructor
  · intro h z hz
    obtain ⟨i, hi, rfl⟩ := List.mem_iff_getElem.1 hz
    have := h i hi
    rw [rd_at hi] at this
    exact this
  · intro h i hi
    rw [rd_at hi]
    exact h _ (List.getElem_mem hi)
theorem ok52 {books : List S52} (hok : ∀ b ∈ books, i64ok b.f2) (z : Int) : i64ok (rd_T52 books z).f2 := by
  unfold rd_T52
  by_cases hz : z.toNat < books.length
  · rw [show books.getD z.toNat z52 = books[z.toNat] by simp [hz]]
    exact hok _ (List.getElem_mem hz)
  · rw [show books.getD z.toNat z52 = z52 by simp [hz]]
    decide
theorem amts_ok {books : List S52} (hok : ∀ b ∈ books, i64ok b.f2) (zs : List Int) : ∀ x ∈ amts books zs, i64ok x := by
  intro x hx
  obtain ⟨z, _, rfl⟩ := List.mem_map.1 hx
  exact ok52 hok z
theorem one_l0 (lines : List S50) (books : List S52) (hb : books.length ≤ 1000) (hok : ∀ b ∈ books, i64ok b.f2) (a : Int) (ha : 0 ≤ a ∧ a < lines.length) (xs : List Int) (hx : xs.length ≤ 9223372036854775807) :
    ∀ (n j : Nat), xs.length - j = n → j ≤ xs.length → AscTo xs j → RngTo books.length xs j → ∃ b, Ev (fun k => accountingref49_one.l0 k lines books (amts books (xs.take j)) (j : Int) a xs) b ∧ (b = true ↔ AscTo xs xs.length ∧ RngTo books.length xs xs.length ∧ sumAt lines books ⟨a, xs⟩ = true) := by
  intro n
  induction n with
  | zero =>
    intro j hn hj h1 h2
    have e : j = xs.length := by omega
    have hjn := asc_le h1 h2
    subst e
    rw [List.take_of_length_le (Nat.le_refl _)]
    have hs := rsum_ev (amts books xs) (by unfold amts; rw [List.length_map]; omega) (amts_ok hok xs)
    refine ⟨sumAt lines books ⟨a, xs⟩, Ev.step (fun k => accountingref49_one.l0.eq_2 _ _ _ _ _ _ k) ?_, ⟨fun h => ⟨h1, h2, h⟩, fun h => h.2.2⟩⟩
    simp only [if_neg (show ¬ ((xs.length : Int) < (xs.length : Int)) by omega)]
    refine hs.bind ?_
    unfold sumAt
    by_cases c : i64ok (amts books xs).sum
    · simp only [if_pos c, if_true, if_pos ha.1, if_pos ha.2, decide_eq_true c, Bool.true_and]
      have : ((amts books xs).sum == (rd_T50 lines a).f1) = decide ((amts books xs).sum = (rd_T50 lines a).f1) := rfl
      rw [this]
      exact Ev.now _
    · simp only [if_neg c, decide_eq_false c, Bool.false_and, Bool.false_eq_true, if_false]
      exact Ev.now _
  | succ n ih =>
    intro j hn hj h1 h2
    have hjl : j < xs.length := by omega
    have hjn := asc_le h1 h2
    have hw : wrap64 ((j : Int) + 1) = ((j + 1 : Nat) : Int) := by rw [w64 (by omega) (by omega)]; omega
    have hw1 : 0 < j → wrap64 ((j : Int) - 1) = (j : Int) - 1 := fun _ => w64 (by omega) (by omega)
    have ht : amts books (xs.take (j + 1)) = amts books (xs.take j) ++ [(rd_T52 books (rd xs (j : Int))).f2] := by
      rw [List.take_add_one, List.getElem?_eq_getElem hjl, rd_at hjl]
      unfold amts
      rw [List.map_append]
      rfl
    have hlen : (amts books (xs.take j)).length < 17592186044416 := by unfold amts; rw [List.length_map, List.length_take]; omega
    by_cases r1 : rd xs (j : Int) < 0
    · refine ⟨false, Ev.step (fun k => accountingref49_one.l0.eq_2 _ _ _ _ _ _ k) ?_, ⟨fun h => by simp at h, fun h => ?_⟩⟩
      · simp only [if_pos (show ((j : Int) < (xs.length : Int)) by omega), if_pos (show (0 : Int) ≤ (j : Int) by omega), if_pos r1]
        exact Ev.now _
      · have := (h.2.1 j hjl).1
        omega
    by_cases r2 : rd xs (j : Int) ≥ (books.length : Int)
    · refine ⟨false, Ev.step (fun k => accountingref49_one.l0.eq_2 _ _ _ _ _ _ k) ?_, ⟨fun h => by simp at h, fun h => ?_⟩⟩
      · simp only [if_pos (show ((j : Int) < (xs.length : Int)) by omega), if_pos (show (0 : Int) ≤ (j : Int) by omega), if_neg r1, if_pos r2]
        exact Ev.now _
      · have := (h.2.1 j hjl).2
        omega
    have h2' : RngTo books.length xs (j + 1) := fun i hi => by
      by_cases e : i = j
      · subst e; omega
      · exact h2 i (by omega)
    by_cases r0 : j = 0
    · obtain ⟨b, hb1, hb2⟩ := ih (j + 1) (by omega) (by omega) (fun i h0 hi => by omega) h2'
      refine ⟨b, Ev.step (fun k => accountingref49_one.l0.eq_2 _ _ _ _ _ _ k) ?_, hb2⟩
      rw [ht] at hb1
      simp only [if_pos (show ((j : Int) < (xs.length : Int)) by omega), if_pos (show (0 : Int) ≤ (j : Int) by omega), if_neg r1, if_neg r2, if_neg (show ¬ (j : Int) > 0 by omega), if_pos (show (0 : Int) ≤ rd xs (j : Int) by omega), if_pos (show rd xs (j : Int) < (books.length : Int) by omega), if_pos hlen, hw]
      exact hb1
    by_cases r3 : rd xs (j : Int) ≤ rd xs ((j : Int) - 1)
    · refine ⟨false, Ev.step (fun k => accountingref49_one.l0.eq_2 _ _ _ _ _ _ k) ?_, ⟨fun h => by simp at h, fun h => ?_⟩⟩
      · simp only [if_pos (show ((j : Int) < (xs.length : Int)) by omega), if_pos (show (0 : Int) ≤ (j : Int) by omega), if_neg r1, if_neg r2, if_pos (show (j : Int) > 0 by omega), hw1 (by omega), if_pos (show (0 : Int) ≤ (j : Int) - 1 by omega), if_pos (show (j : Int) - 1 < (xs.length : Int) by omega), if_pos r3]
        exact Ev.now _
      · have := h.1 j (by omega) hjl
        omega
    · obtain ⟨b, hb1, hb2⟩ := ih (j + 1) (by omega) (by omega) (fun i h0 hi => by
        by_cases e : i = j
        · subst e; omega
        · exact h1 i h0 (by omega)) h2'
      refine ⟨b, Ev.step (fun k => accountingref49_one.l0.eq_2 _ _ _ _ _ _ k) ?_, hb2⟩
      rw [ht] at hb1
      simp only [if_pos (show ((j : Int) < (xs.length : Int)) by omega), if_pos (show (0 : Int) ≤ (j : Int) by omega), if_neg r1, if_neg r2, if_pos (show (j : Int) > 0 by omega), hw1 (by omega), if_pos (show (0 : Int) ≤ (j : Int) - 1 by omega), if_pos (show (j : Int) - 1 < (xs.length : Int) by omega), if_neg r3, if_pos (show (0 : Int) ≤ rd xs (j : Int) by omega), if_pos (show rd xs (j : Int) < (books.length : Int) by omega), if_pos hlen, hw]
      exact hb1
theorem one_ev (lines : List S50) (books : List S52) (hb : books.length ≤ 1000) (hok : ∀ b ∈ books, i64ok b.f2) (x : S54) (hx : x.f1.length ≤ 9223372036854775807) :
    ∃ b, Ev (fun k => accountingref49_one.f k lines books x.f0 x.f1) b ∧ (b = true ↔ OneOk lines books x) := by
  unfold accountingref49_one.f OneOk
  by_cases c1 : x.f0 < 0
  · refine ⟨false, ?_, ⟨fun h => by simp at h, fun h => by omega⟩⟩
    simp only [if_pos c1]
    refine Ev.step (fun k => accountingref49_one.j0.eq_2 _ _ _ _ _ k) ?_
    simp only [if_true]
    exact Ev.now _
  by_cases c2 : x.f0 ≥ (lines.length : Int)
  · refine ⟨false, ?_, ⟨fun h => by simp at h, fun h => by omega⟩⟩
    simp only [if_neg c1, if_pos c2]
    refine Ev.step (fun k => accountingref49_one.j0.eq_2 _ _ _ _ _ k) ?_
    simp only [if_true]
    exact Ev.now _
  by_cases c3 : x.f1 = []
  · refine ⟨false, ?_, ⟨fun h => by simp at h, fun h => absurd c3 h.2.1⟩⟩
    simp only [if_neg c1, if_neg c2]
    refine Ev.step (fun k => accountingref49_one.j0.eq_2 _ _ _ _ _ k) ?_
    have : (((x.f1).length : Int) == 0) = true := by rw [c3]; rfl
    simp only [this, if_true]
    exact Ev.now _
  · obtain ⟨b, h1, h2⟩ := one_l0 lines books hb hok x.f0 ⟨by omega, by omega⟩ x.f1 hx _ 0 rfl (Nat.zero_le _) (fun i _ h => by omega) (fun i h => by omega)
    refine ⟨b, ?_, ?_⟩
    · simp only [if_neg c1, if_neg c2]
      refine Ev.step (fun k => accountingref49_one.j0.eq_2 _ _ _ _ _ k) ?_
      have : (((x.f1).length : Int) == 0) = false := by
        have : x.f1.length ≠ 0 := fun e => c3 (List.length_eq_zero_iff.1 e)
        exact beq_eq_false_iff_ne.mpr (by omega)
      simp only [this, Bool.false_eq_true, if_false]
      exact h1
    · rw [h2, asc_iff, rng_iff]
      constructor
      · intro h
        exact ⟨⟨by omega, by omega⟩, c3, h.1, h.2.1, h.2.2⟩
      · intro h
        exact ⟨h.2.2.1, h.2.2.2.1, h.2.2.2.2⟩
/-! ### All matches -/
def OkJ (lines : List S50) (books : List S52) (m : List S54) (j : Nat) : Prop :=
  OneOk lines books (rd_T54 m (j : Int)) ∧ (0 < j → (rd_T54 m ((j : Int) - 1)).f0 < (rd_T54 m (j : Int)).f0) ∧ ∀ z ∈ (rd_T54 m (j : Int)).f1, z ∉ (m.take j).flatMap (·.f1)
theorem rright_l1 (lines : List S50) (books : List S52) (m : List S54) (hm : m.length ≤ 1000000) (h2 : ∀ x ∈ m, x.f1.length ≤ 9223372036854775807) (i : Nat) (hi : i < m.length) (b0 : Bool) (hnext : Ev (fun k => accountingref49_Right.l0 k lines books m ((i + 1 : Nat) : Int)) b0) :
    ∀ (n j : Nat), (rd_T54 m (i : Int)).f1.length - j = n → j ≤ (rd_T54 m (i : Int)).f1.length → Ev (fun k => accountingref49_Right.l1 k lines books m (i : Int) (j : Int)) (((rd_T54 m (i : Int)).f1.drop j).all (fun z => !((m.take i).flatMap (·.f1)).contains z) && b0) := by
  have hrow := h2 _ (rd54_mem hi)
  have hw0 : wrap64 ((i : Int) + 1) = ((i + 1 : Nat) : Int) := by rw [w64 (by omega) (by omega)]; omega
  intro n
  induction n with
  | zero =>
    intro j hn hj
    refine Ev.step (fun k => accountingref49_Right.l1.eq_2 _ _ _ _ _ k) ?_
    simp only [if_pos (show (0 : Int) ≤ (i : Int) by omega), if_pos (show ((i : Int) < (m.length : Int)) by omega), if_neg (show ¬ ((j : Int) < ((rd_T54 m (i : Int)).f1.length : Int)) by omega), hw0]
    rw [List.drop_of_length_le (by omega), List.all_nil, Bool.true_and]
    exact hnext
  | succ n ih =>
    intro j hn hj
    have hw : wrap64 ((j : Int) + 1) = ((j + 1 : Nat) : Int) := by rw [w64r (by omega) (by omega)]; omega
    refine Ev.step (fun k => accountingref49_Right.l1.eq_2 _ _ _ _ _ k) ?_
    simp only [if_pos (show (0 : Int) ≤ (i : Int) by omega), if_pos (show ((i : Int) < (m.length : Int)) by omega), if_pos (show ((j : Int) < ((rd_T54 m (i : Int)).f1.length : Int)) by omega), if_pos (show (i : Int) ≤ (m.length : Int) by omega), if_pos (show (0 : Int) ≤ (j : Int) by omega), hw, Int.toNat_natCast]
    refine (lists_ev (m.take i) (by rw [List.length_take]; omega)).bind ?_
    refine (uses2_ev ((m.take i).map (·.f1)) (rd (rd_T54 m (i : Int)).f1 (j : Int)) (by rw [List.length_map, List.length_take]; omega) (fun r hr => by obtain ⟨x, hx, rfl⟩ := List.mem_map.1 hr; exact h2 x (List.mem_of_mem_take hx))).bind ?_
    rw [any_flat, rd_drop2 (show j < (rd_T54 m (i : Int)).f1.length by omega), List.all_cons]
    by_cases hc : ((m.take i).flatMap (·.f1)).contains (rd (rd_T54 m (i : Int)).f1 (j : Int)) = true
    · simp only [if_pos hc]
      rw [hc, Bool.not_true, Bool.false_and, Bool.false_and]
      exact Ev.now _
    · simp only [if_neg hc]
      rw [Bool.not_eq_true] at hc
      rw [hc, Bool.not_false, Bool.true_and]
      exact ih (j + 1) (by omega) (by omega)
theorem rright_l0 (lines : List S50) (books : List S52) (m : List S54) (hb : books.length ≤ 1000) (hok : ∀ b ∈ books, i64ok b.f2) (hm : m.length ≤ 1000000) (h2 : ∀ x ∈ m, x.f1.length ≤ 9223372036854775807) :
    ∀ (n i : Nat), m.length - i = n → i ≤ m.length → ∃ b, Ev (fun k => accountingref49_Right.l0 k lines books m (i : Int)) b ∧ (b = true ↔ ∀ j : Nat, i ≤ j → j < m.length → OkJ lines books m j) := by
  intro n
  induction n with
  | zero =>
    intro i hn hi
    refine ⟨true, Ev.step (fun k => accountingref49_Right.l0.eq_2 _ _ _ _ k) ?_, ⟨fun _ j h1 h2 => by omega, fun _ => rfl⟩⟩
    simp only [if_neg (show ¬ ((i : Int) < (m.length : Int)) by omega)]
    exact Ev.now _
  | succ n ih =>
    intro i hn hi
    have hil : i < m.length := by omega
    have hw1 : 0 < i → wrap64 ((i : Int) - 1) = (i : Int) - 1 := fun _ => w64 (by omega) (by omega)
    obtain ⟨b1, o1, o2⟩ := one_ev lines books hb hok (rd_T54 m (i : Int)) (h2 _ (rd54_mem hil))
    obtain ⟨b0, n1, n2⟩ := ih (i + 1) (by omega) (by omega)
    have hj : ∀ c : Bool, c = false → Ev (fun k => accountingref49_Right.j1 k lines books m (i : Int) c) (((rd_T54 m (i : Int)).f1).all (fun z => !((m.take i).flatMap (·.f1)).contains z) && b0) := by
      intro c hc
      subst hc
      refine Ev.step (fun k => accountingref49_Right.j1.eq_2 _ _ _ _ _ k) ?_
      simp only [Bool.false_eq_true, if_false]
      exact rright_l1 lines books m hm h2 i hil b0 n1 _ 0 rfl (Nat.zero_le _)
    have hj1 : Ev (fun k => accountingref49_Right.j1 k lines books m (i : Int) true) false := by
      refine Ev.step (fun k => accountingref49_Right.j1.eq_2 _ _ _ _ _ k) ?_
      simp only [if_true]
      exact Ev.now _
    have hlast : ∀ (h1 : OneOk lines books (rd_T54 m (i : Int))) (h3 : 0 < i → (rd_T54 m ((i : Int) - 1)).f0 < (rd_T54 m (i : Int)).f0), ((((rd_T54 m (i : Int)).f1).all (fun z => !((m.take i).flatMap (·.f1)).contains z) && b0) = true ↔ ∀ j : Nat, i ≤ j → j < m.length → OkJ lines books m j) := by
      intro h1 h3
      rw [Bool.and_eq_true, List.all_eq_true, n2]
      constructor
      · rintro ⟨p, q⟩ j h4 h5
        by_cases e : j = i
        · subst e
          refine ⟨h1, h3, fun z hz hc => ?_⟩
          have := p z hz
          rw [Bool.not_eq_true', List.contains_iff_mem.2 hc] at this
          exact absurd this (by simp)
        · exact q j (by omega) h5
      · intro h
        refine ⟨fun z hz => ?_, fun j h4 h5 => h j (by omega) h5⟩
        have := (h i (Nat.le_refl _) hil).2.2 z hz
        rw [Bool.not_eq_true', ← Bool.not_eq_true, List.contains_iff_mem]
        exact this
    cases b1
    · refine ⟨false, Ev.step (fun k => accountingref49_Right.l0.eq_2 _ _ _ _ k) ?_, ⟨fun h => by simp at h, fun h => o2.2 (h i (Nat.le_refl _) hil).1⟩⟩
      simp only [if_pos (show ((i : Int) < (m.length : Int)) by omega), if_pos (show (0 : Int) ≤ (i : Int) by omega)]
      refine o1.bind ?_
      simp only [Bool.false_eq_true, if_false]
      exact hj1
    · have hone := o2.1 rfl
      by_cases r0 : i = 0
      · refine ⟨_, Ev.step (fun k => accountingref49_Right.l0.eq_2 _ _ _ _ k) ?_, hlast hone (fun h => by omega)⟩
        simp only [if_pos (show ((i : Int) < (m.length : Int)) by omega), if_pos (show (0 : Int) ≤ (i : Int) by omega)]
        refine o1.bind ?_
        simp only [if_true, if_neg (show ¬ (i : Int) > 0 by omega)]
        exact hj _ rfl
      · by_cases r3 : (rd_T54 m (i : Int)).f0 ≤ (rd_T54 m ((i : Int) - 1)).f0
        · refine ⟨false, Ev.step (fun k => accountingref49_Right.l0.eq_2 _ _ _ _ k) ?_, ⟨fun h => by simp at h, fun h => ?_⟩⟩
          · simp only [if_pos (show ((i : Int) < (m.length : Int)) by omega), if_pos (show (0 : Int) ≤ (i : Int) by omega)]
            refine o1.bind ?_
            simp only [if_true, if_pos (show (i : Int) > 0 by omega), hw1 (by omega), if_pos (show (0 : Int) ≤ (i : Int) - 1 by omega), if_pos (show (i : Int) - 1 < (m.length : Int) by omega), decide_eq_true r3]
            exact hj1
          · have := (h i (Nat.le_refl _) hil).2.1 (by omega)
            omega
        · refine ⟨_, Ev.step (fun k => accountingref49_Right.l0.eq_2 _ _ _ _ k) ?_, hlast hone (fun h => by omega)⟩
          simp only [if_pos (show ((i : Int) < (m.length : Int)) by omega), if_pos (show (0 : Int) ≤ (i : Int) by omega)]
          refine o1.bind ?_
          simp only [if_true, if_pos (show (i : Int) > 0 by omega), hw1 (by omega), if_pos (show (0 : Int) ≤ (i : Int) - 1 by omega), if_pos (show (i : Int) - 1 < (m.length : Int) by omega), decide_eq_false r3]
          exact hj _ rfl
/-! ### The program's Right -/
theorem takeAll_inv : ∀ (zs : List Int) (u u' : List Bool), takeAll u zs = some u' → u' = P.mark u zs ∧ zs.Pairwise (· ≠ ·) ∧ ∀ z ∈ zs, (0 ≤ z ∧ z < u.length) ∧ rdOf false u z = false
  | [], u, u', h => by
    cases h
    exact ⟨rfl, .nil, fun z hz => by cases hz⟩
  | z :: r, u, u', h => by
    have h : (if free u z = true then takeAll (u.set z.toNat true) r else none) = some u' := h
    split at h
    · rename_i hf
      unfold free at hf
      rw [Bool.and_eq_true, Bool.and_eq_true, decide_eq_true_iff, decide_eq_true_iff, Bool.not_eq_true'] at hf
      obtain ⟨⟨z0, z1⟩, zf⟩ := hf
      obtain ⟨i1, i2, i3⟩ := takeAll_inv r _ u' h
      have key : ∀ y ∈ r, (0 ≤ y ∧ y < u.length) ∧ rdOf false u y = false ∧ y ≠ z := by
        intro y hy
        obtain ⟨⟨y0, y1⟩, yf⟩ := i3 y hy
        rw [List.length_set] at y1
        rw [rdOf_set u z y z0 y0 z1, Bool.or_eq_false_iff] at yf
        exact ⟨⟨y0, y1⟩, yf.1, by simpa using yf.2⟩
      refine ⟨i1, List.pairwise_cons.2 ⟨fun y hy e => (key y hy).2.2 e.symm, i2⟩, fun y hy => ?_⟩
      rcases List.mem_cons.1 hy with rfl | hy
      · exact ⟨⟨z0, z1⟩, zf⟩
      · exact ⟨(key y hy).1, (key y hy).2.1⟩
    · cases h
theorem sorted_asc {zs : List Int} (h : sortedB zs = true) (hp : zs.Pairwise (· ≠ ·)) : zs.Pairwise (· < ·) := by
  rw [← asc_iff]
  intro i h0 hi
  unfold sortedB at h
  rw [List.all_eq_true] at h
  have h1 := h i (List.mem_range.2 hi)
  have h2 := List.pairwise_iff_getElem.1 hp (i - 1) i (by omega) hi (by omega)
  have e1 : rd zs ((i : Int) - 1) = zs[i - 1] := by rw [show (i : Int) - 1 = ((i - 1 : Nat) : Int) by omega, rd_at (show i - 1 < zs.length by omega)]
  rw [e1, rd_at hi] at h1
  rw [e1, rd_at hi]
  have h3 : zs[i - 1] ≤ zs[i] := by
    rcases Bool.or_eq_true _ _ ▸ h1 with h | h
    · have : i = 0 := by simpa using h
      omega
    · exact of_decide_eq_true h
  omega
theorem right_inv (lines : List S50) (books : List S52) (m : List S54) : ∀ (c k : Nat), m.length - k = c → k ≤ m.length → (∀ z : Int, z ∈ (m.take k).flatMap (·.f1) → 0 ≤ z ∧ z < books.length) → rightFrom lines books m c k (P.mark (List.replicate books.length false) ((m.take k).flatMap (·.f1))) = true → ∀ j : Nat, k ≤ j → j < m.length → OkJ lines books m j
  | 0, k, hc, hk, _, _ => fun j h1 h2 => by omega
  | c + 1, k, hc, hk, hr, h => by
    have hlt : k < m.length := by omega
    have h : (if okAt lines m k = true then (match takeAll (P.mark (List.replicate books.length false) ((m.take k).flatMap (·.f1))) (rd_T54 m (k : Int)).f1 with | none => false | some u' => if sumAt lines books (rd_T54 m (k : Int)) = true then rightFrom lines books m c (k + 1) u' else false) else false) = true := h
    split at h
    · rename_i hok
      cases hta : takeAll (P.mark (List.replicate books.length false) ((m.take k).flatMap (·.f1))) (rd_T54 m (k : Int)).f1 with
      | none => rw [hta] at h; exact absurd h (by simp)
      | some u' =>
        rw [hta] at h
        have h : (if sumAt lines books (rd_T54 m (k : Int)) = true then rightFrom lines books m c (k + 1) u' else false) = true := h
        split at h
        · rename_i hs
          obtain ⟨t1, t2, t3⟩ := takeAll_inv _ _ _ hta
          rw [mark_len, List.length_replicate] at t3
          unfold okAt at hok
          simp only [Bool.and_eq_true, Bool.or_eq_true, decide_eq_true_iff, beq_iff_eq] at hok
          obtain ⟨⟨⟨⟨a1, a2⟩, a3⟩, a4⟩, a5⟩ := hok
          have hflat : (m.take (k + 1)).flatMap (·.f1) = (m.take k).flatMap (·.f1) ++ (rd_T54 m (k : Int)).f1 := by
            rw [List.take_add_one, List.getElem?_eq_getElem hlt, rd54_at hlt, List.flatMap_append]
            simp
          have hmark : u' = P.mark (List.replicate books.length false) ((m.take (k + 1)).flatMap (·.f1)) := by
            rw [hflat, t1]
            unfold P.mark
            rw [List.foldl_append]
          rw [hmark] at h
          have ih := right_inv lines books m c (k + 1) (by omega) (by omega) (fun z hz => by
            rw [hflat, List.mem_append] at hz
            rcases hz with hz | hz
            · exact hr z hz
            · exact (t3 z hz).1) h
          intro j h1 h2
          by_cases e : j = k
          · subst e
            refine ⟨⟨⟨a1, a2⟩, fun e => a4 (by rw [e]; rfl), sorted_asc a5 t2, fun z hz => (t3 z hz).1, hs⟩, fun h0 => ?_, fun z hz hc => ?_⟩
            · rcases a3 with a3 | a3
              · omega
              · exact a3
            · have := (t3 z hz).2
              rw [mark_get _ _ (fun y hy => by rw [List.length_replicate]; exact hr y hy) z (t3 z hz).1.1, List.contains_iff_mem.2 hc, Bool.or_true] at this
              exact absurd this (by simp)
          · exact ih j (by omega) h2
        · exact absurd h (by simp)
    · exact absurd h (by simp)
theorem okJ_apart (lines : List S50) (books : List S52) (m : List S54) (h : ∀ j : Nat, j < m.length → OkJ lines books m j) : m.Pairwise Apart2 := by
  have hlt : ∀ (i d : Nat), i + d + 1 < m.length → (rd_T54 m (i : Int)).f0 < (rd_T54 m ((i + d + 1 : Nat) : Int)).f0 := by
    intro i d
    induction d with
    | zero =>
      intro hd
      have := (h (i + 1) hd).2.1 (by omega)
      rw [show ((i + 1 : Nat) : Int) - 1 = (i : Int) by omega] at this
      exact this
    | succ d ih =>
      intro hd
      have h1 := ih (by omega)
      have h2 := (h (i + (d + 1) + 1) hd).2.1 (by omega)
      rw [show ((i + (d + 1) + 1 : Nat) : Int) - 1 = ((i + d + 1 : Nat) : Int) by omega] at h2
      omega
  rw [List.pairwise_iff_getElem]
  intro i j hi hj hij
  refine ⟨?_, fun z hz hz2 => ?_⟩
  · have := hlt i (j - i - 1) (by omega)
    rw [show i + (j - i - 1) + 1 = j by omega, rd54_at hi, rd54_at hj] at this
    exact this
  · have := (h j hj).2.2 z (by rw [rd54_at hj]; exact hz2)
    refine this (List.mem_flatMap.2 ⟨m[i], ?_, hz⟩)
    rw [List.mem_take_iff_getElem]
    exact ⟨i, by omega, rfl⟩
theorem right_iff (lines : List S50) (books : List S52) (m : List S54) : rightFrom lines books m m.length 0 (List.replicate books.length false) = true ↔ ∀ j : Nat, j < m.length → OkJ lines books m j := by
  constructor
  · intro h j hj
    exact right_inv lines books m m.length 0 rfl (Nat.zero_le _) (fun z hz => by simp at hz) h j (Nat.zero_le _) hj
  · intro h
    refine right_ok lines books m (fun x hx => ?_) (okJ_apart lines books m h) _ 0 _ rfl (Nat.zero_le _) (by simp) (fun j _ _ z _ => none_get books z)
    obtain ⟨i, hi, rfl⟩ := List.mem_iff_getElem.1 hx
    have := (h i hi).1
    rw [rd54_at hi] at this
    exact this
theorem right_ev (lines : List S50) (books : List S52) (m : List S54) (hb : books.length ≤ 1000) (hok : ∀ b ∈ books, i64ok b.f2) (hm : m.length ≤ 1000000) (h2 : ∀ x ∈ m, x.f1.length ≤ 9223372036854775807) :
    Ev (fun k => accountingref49_Right.f k lines books m) (rightFrom lines books m m.length 0 (List.replicate books.length false)) := by
  obtain ⟨b, h1, h3⟩ := rright_l0 lines books m hb hok hm h2 _ 0 rfl (Nat.zero_le _)
  have e : b = rightFrom lines books m m.length 0 (List.replicate books.length false) := by
    rw [Bool.eq_iff_iff, h3, right_iff]
    exact ⟨fun h j hj => h j (Nat.zero_le _) hj, fun h j _ hj => h j hj⟩
  rw [← e]
  exact h1
theorem right_some2 (lines : List S50) (books : List S52) (m : List S54) (h1 : ∀ x ∈ m, x.f1.length ≤ 9223372036854775807) (h2 : ∀ b ∈ books, i64ok b.f2) (h3 : m.length ≤ 1000000) (h4 : books.length ≤ 1000000) : match_Right.f lines books m = some (rightFrom lines books m m.length 0 (List.replicate books.length false)) := by
  unfold match_Right.f
  rw [if_pos ⟨h1, h2, h3, h4⟩]
/-! ### How long the matches are -/
theorem long_ev (m : List S54) (hm : m.length ≤ 9223372036854775807) : ∃ b, Ev (fun k => accountinglaw49_long.f k m) b ∧ (b = false → m.length ≤ 40) := by
  have key : ∀ (n i : Nat) (s : Int), m.length - i = n → i ≤ m.length → ∃ b, Ev (fun k => accountinglaw49_long.l0 k m s (i : Int)) b ∧ (b = false → m.length ≤ 40) := by
    intro n
    induction n with
    | zero =>
      intro i s hn hi
      by_cases c : (m.length : Int) > 40
      · refine ⟨true, Ev.step (fun k => accountinglaw49_long.l0.eq_2 _ _ _ k) ?_, fun h => by simp at h⟩
        simp only [if_neg (show ¬ ((i : Int) < (m.length : Int)) by omega), if_pos c]
        exact Ev.now _
      · refine ⟨decide (s > 100), Ev.step (fun k => accountinglaw49_long.l0.eq_2 _ _ _ k) ?_, fun _ => by omega⟩
        simp only [if_neg (show ¬ ((i : Int) < (m.length : Int)) by omega), if_neg c]
        exact Ev.now _
    | succ n ih =>
      intro i s hn hi
      have hw : wrap64 ((i : Int) + 1) = ((i + 1 : Nat) : Int) := by rw [w64r (by omega) (by omega)]; omega
      obtain ⟨b, h1, h2⟩ := ih (i + 1) (wrap64 (s + ((rd_T54 m (i : Int)).f1.length : Int))) (by omega) (by omega)
      refine ⟨b, Ev.step (fun k => accountinglaw49_long.l0.eq_2 _ _ _ k) ?_, h2⟩
      simp only [if_pos (show ((i : Int) < (m.length : Int)) by omega), if_pos (show (0 : Int) ≤ (i : Int) by omega), hw]
      exact h1
  exact key _ 0 0 rfl (Nat.zero_le _)
end Go.Proofs.YtinfcbfdeacllaaDoor.Sp
