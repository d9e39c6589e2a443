/- What match.Run finds is right. -/
import Derived.Test.YtinfcbfdeacllaaDoorSpecK
import Derived.Test.YtinfcbfdeacllaaDoorHandJ
namespace Go.Proofs.YtinfcbfdeacllaaDoor.Sp
open Go.RowKit Go.Proofs.YtinfcbfdeacllaaDoor.P Go.Proofs.YtinfcbfdeacllaaDoorW.PrintWords Go.Proofs.YtinfcbfdeacllaaDoorW.PrintLast
set_option linter.unusedVariables false
set_option linter.unusedSimpArgs false
/-- What a pick is for a line: ascending, and of the line's amount. -/
def FitAt (books : List S52) (l : S50) (zs : List Int) : Prop := zs.Pairwise (· < ·) ∧ (zs = [] ∨ (amts books zs).sum = l.f1)
theorem fit_nil (books : List S52) (l : S50) : FitAt books l [] := ⟨.nil, .inl rfl⟩
theorem pass_fit (books : List S52) (pick : List Bool → S50 → List Int) (hp : ∀ u l, FitAt books l (pick u l)) (lines : List S50) (st : List Bool × (Int → List Int)) (h : ∀ i : Nat, FitAt books (rd_T50 lines (i : Int)) (st.2 (i : Int))) : ∀ (k i : Nat), FitAt books (rd_T50 lines (i : Int)) ((pass pick lines st k).2 (i : Int))
  | 0, i => h i
  | k + 1, i => by
    have ih := pass_fit books pick hp lines st h k i
    show FitAt _ _ ((stepOf pick lines (pass pick lines st k) k).2 (i : Int))
    unfold stepOf
    split
    · show FitAt _ _ (upd _ _ _ (i : Int))
      unfold upd
      split
      · rename_i e
        rw [e]
        exact hp _ _
      · exact ih
    · exact ih
theorem pickA_fit (books : List S52) (u : List Bool) (l : S50) : FitAt books l (pickA books u l) := by
  unfold pickA pickSame
  split
  · exact fit_nil _ _
  · cases hf : (refsTo books (noneUsed books) books.length l.f2).find? (isSame books u l) with
    | none => exact fit_nil _ _
    | some z =>
      refine ⟨List.pairwise_singleton _ _, .inr ?_⟩
      have := List.find?_some hf
      unfold isSame at this
      simp at this
      simp [amts, pickOf, this.2]
theorem pickB_fit (books : List S52) (win : Int) (u : List Bool) (l : S50) : FitAt books l (pickB books win u l) := by
  unfold pickB pickNear
  split
  · exact fit_nil _ _
  · rename_i hn
    refine ⟨List.pairwise_singleton _ _, .inr ?_⟩
    have := (nearTo_unused books u win l books.length (by omega)).2
    simp [amts, this]
theorem amt_bd {lines : List S50} {books : List S52} {win : Int} (hf : Fine lines books win) (z : Int) : -1000000000000 ≤ (rd_T52 books z).f2 ∧ (rd_T52 books z).f2 ≤ 1000000000000 := by
  unfold rd_T52
  by_cases hz : z.toNat < books.length
  · rw [show books.getD z.toNat z52 = books[z.toNat] by simp [hz]]
    exact (hf.bd _ (List.getElem_mem hz)).2
  · rw [show books.getD z.toNat z52 = z52 by simp [hz]]
    decide
theorem gsum_sum {lines : List S50} {books : List S52} {win : Int} (hf : Fine lines books win) : ∀ (zs : List Int) (s : Int) (n : Nat), zs.length + n ≤ 4000 → -(1000000000000 * (n : Int)) ≤ s → s ≤ 1000000000000 * (n : Int) → zs.foldl (fun s z => wrap64 (s + (rd_T52 books z).f2)) s = s + (amts books zs).sum
  | [], s, n, _, _, _ => by simp [amts]
  | z :: r, s, n, hl, h1, h2 => by
    have hb := amt_bd hf z
    rw [List.length_cons] at hl
    rw [List.foldl_cons, w64s (x := s + (rd_T52 books z).f2) (by omega) (by omega), gsum_sum hf r _ (n + 1) (by omega) (by push_cast; omega) (by push_cast; omega)]
    simp [amts]
    omega
theorem refsTo_pw (books : List S52) (u : List Bool) (k : Nat) (s : ByteArray) : (refsTo books u k s).Pairwise (· < ·) := by
  unfold refsTo
  refine List.Pairwise.map _ (fun a b (h : a < b) => by omega) ?_
  exact List.Pairwise.filter _ List.pairwise_lt_range
theorem refsTo_len (books : List S52) (u : List Bool) (k : Nat) (s : ByteArray) : (refsTo books u k s).length ≤ k := by
  unfold refsTo
  rw [List.length_map]
  exact Nat.le_trans (List.length_filter_le _ _) (by simp)
theorem pickC_fit {lines : List S50} {books : List S52} {win : Int} (hf : Fine lines books win) (u0 u : List Bool) (l : S50) : FitAt books l (pickC books u0 u l) := by
  unfold pickC pickGroup
  split
  · exact fit_nil _ _
  · split
    · exact fit_nil _ _
    · split
      · rename_i h
        refine ⟨List.Pairwise.filter _ (refsTo_pw _ _ _ _), .inr ?_⟩
        have hl : (unusedOf u (refsTo books u0 books.length l.f2)).length ≤ 4000 := by
          refine Nat.le_trans (List.length_filter_le _ _) (Nat.le_trans (refsTo_len _ _ _ _) hf.b)
        have := gsum_sum hf (unusedOf u (refsTo books u0 books.length l.f2)) 0 0 (by omega) (by simp) (by simp)
        unfold gsum at h
        rw [this] at h
        simpa using h
      · exact fit_nil _ _
theorem fitC {lines : List S50} {books : List S52} {win : Int} (hf : Fine lines books win) (k i : Nat) : FitAt books (rd_T50 lines (i : Int)) ((passC lines books win k).2 (i : Int)) :=
  pass_fit books _ (pickC_fit hf _) lines _ (pass_fit books _ (pickB_fit books win) lines _ (pass_fit books _ (pickA_fit books) lines _ (fun i => fit_nil _ _) _) _) k i
/-! ### The matches, one behind the other -/
def Apart2 (x y : S54) : Prop := x.f0 < y.f0 ∧ ∀ z ∈ x.f1, z ∉ y.f1
theorem outTo_pw (f : Int → List Int) (hd : ∀ i j z, z ∈ f i → z ∈ f j → i = j) : ∀ k, (outTo f k).Pairwise Apart2
  | 0 => .nil
  | k + 1 => by
    show (outTo f k ++ (if f (k : Int) = [] then [] else [(⟨(k : Int), f (k : Int)⟩ : S54)])).Pairwise Apart2
    rw [List.pairwise_append]
    refine ⟨outTo_pw f hd k, by split <;> simp, fun a ha b hb => ?_⟩
    obtain ⟨i, hi, rfl, _⟩ := outTo_mem ha
    split at hb
    · simp at hb
    · simp at hb
      subst hb
      refine ⟨by show (i : Int) < (k : Int); omega, fun z h1 h2 => ?_⟩
      have := hd _ _ z h1 h2
      omega
theorem sortedB_of (zs : List Int) (h : zs.Pairwise (· < ·)) : sortedB zs = true := by
  unfold sortedB
  rw [List.all_eq_true]
  intro i hi
  have hi := List.mem_range.1 hi
  by_cases h0 : i = 0
  · simp [h0]
  · have := List.pairwise_iff_getElem.1 h (i - 1) i (by omega) hi (by omega)
    have e1 : rd zs (i : Int) = zs[i] := by simp [rd, hi]
    have e2 : rd zs ((i : Int) - 1) = zs[i - 1] := by
      unfold rd
      rw [show ((i : Int) - 1).toNat = i - 1 by omega]
      simp [show i - 1 < zs.length by omega]
    rw [e1, e2, decide_eq_true (by omega), Bool.or_true]
theorem takeAll_some : ∀ (zs : List Int) (u : List Bool), zs.Pairwise (· < ·) → (∀ z ∈ zs, (0 ≤ z ∧ z < u.length) ∧ rdOf false u z = false) → takeAll u zs = some (P.mark u zs)
  | [], u, _, _ => rfl
  | z :: r, u, hp, h => by
    obtain ⟨⟨z0, z1⟩, zf⟩ := h z (by simp)
    obtain ⟨hp1, hp2⟩ := List.pairwise_cons.1 hp
    show (if free u z = true then takeAll (u.set z.toNat true) r else none) = some (P.mark (u.set z.toNat true) r)
    rw [if_pos (by unfold free; rw [decide_eq_true z0, decide_eq_true z1, zf]; rfl)]
    refine takeAll_some r _ hp2 (fun y hy => ?_)
    obtain ⟨⟨y0, y1⟩, yf⟩ := h y (by simp [hy])
    have := hp1 y hy
    refine ⟨⟨y0, by rw [List.length_set]; exact y1⟩, ?_⟩
    rw [rdOf_set u z y z0 y0 z1, yf, decide_eq_false (by omega)]
    rfl
def OneOk (lines : List S50) (books : List S52) (x : S54) : Prop := (0 ≤ x.f0 ∧ x.f0 < lines.length) ∧ x.f1 ≠ [] ∧ x.f1.Pairwise (· < ·) ∧ (∀ z ∈ x.f1, 0 ≤ z ∧ z < books.length) ∧ sumAt lines books x = true
theorem rd54_at {m : List S54} {k : Nat} (h : k < m.length) : rd_T54 m (k : Int) = m[k] := by simp [rd_T54, h]
theorem right_ok (lines : List S50) (books : List S52) (m : List S54) (hA : ∀ x ∈ m, OneOk lines books x) (hB : m.Pairwise Apart2) : ∀ (c k : Nat) (u : List Bool), m.length - k = c → k ≤ m.length → u.length = books.length → (∀ j : Nat, k ≤ j → j < m.length → ∀ z ∈ (rd_T54 m (j : Int)).f1, rdOf false u z = false) → rightFrom lines books m c k u = true
  | 0, _, _, _, _, _, _ => rfl
  | c + 1, k, u, hc, hk, hu, hz => by
    have hlt : k < m.length := by omega
    obtain ⟨h1, h2, h3, h4, h5⟩ := hA _ (rd54_mem hlt)
    have hok : okAt lines m k = true := by
      unfold okAt
      rw [decide_eq_true h1.1, decide_eq_true h1.2, sortedB_of _ h3, decide_eq_true (show (rd_T54 m (k : Int)).f1.length ≠ 0 from fun e => h2 (List.length_eq_zero_iff.1 e))]
      by_cases h0 : k = 0
      · simp [h0]
      · have := (List.pairwise_iff_getElem.1 hB (k - 1) k (by omega) hlt (by omega)).1
        have e : rd_T54 m ((k : Int) - 1) = m[k - 1] := by rw [show (k : Int) - 1 = ((k - 1 : Nat) : Int) by omega]; exact rd54_at _
        rw [e, rd54_at hlt, decide_eq_true this]
        simp
    have hta := takeAll_some (rd_T54 m (k : Int)).f1 u h3 (fun z hzz => And.intro (by rw [hu]; exact h4 z hzz) (hz k (Nat.le_refl _) hlt z hzz))
    show (if okAt lines m k = true then (match takeAll u (rd_T54 m (k : Int)).f1 with | none => false | some u' => if sumAt lines books (rd_T54 m (k : Int)) = true then rightFrom lines books m c (k + 1) u' else false) else false) = true
    rw [if_pos hok, hta]
    show (if sumAt lines books (rd_T54 m (k : Int)) = true then rightFrom lines books m c (k + 1) (P.mark u (rd_T54 m (k : Int)).f1) else false) = true
    rw [if_pos h5]
    refine right_ok lines books m hA hB c (k + 1) _ (by omega) (by omega) (by rw [mark_len]; exact hu) (fun j hj hjl z hzz => ?_)
    have hzj := (hA _ (rd54_mem hjl)).2.2.2.1 z hzz
    rw [mark_get _ _ (fun y hy => by rw [hu]; exact h4 y hy) z hzj.1, hz j (by omega) hjl z hzz]
    have := (List.pairwise_iff_getElem.1 hB k j hlt hjl (by omega)).2 z
    rw [rd54_at hlt]
    rw [rd54_at hjl] at hzz
    simp
    exact fun hc => this hc hzz
theorem run_right {lines : List S50} {books : List S52} {win : Int} (hf : Fine lines books win) : rightFrom lines books (runOf lines books win) (runOf lines books win).length 0 (List.replicate books.length false) = true := by
  have hg := goodC lines books win lines.length
  refine right_ok lines books (runOf lines books win) (fun x hx => ?_) (outTo_pw _ hg.dis _) _ 0 _ (by omega) (Nat.zero_le _) (by simp) (fun j _ _ z hz => none_get books z)
  obtain ⟨i, hi, rfl, hne⟩ := outTo_mem hx
  have ft := fitC hf lines.length i
  have hs : (amts books ((passC lines books win lines.length).2 (i : Int))).sum = (rd_T50 lines (i : Int)).f1 := ft.2.resolve_left hne
  have hb := (hf.ld _ (rd50_mem hi)).2
  refine ⟨⟨by show (0 : Int) ≤ (i : Int); omega, by show (i : Int) < _; omega⟩, hne, ft.1, fun z hz => hg.rng _ z hz, ?_⟩
  unfold sumAt
  show (decide (i64ok (amts books ((passC lines books win lines.length).2 (i : Int))).sum) && decide ((amts books ((passC lines books win lines.length).2 (i : Int))).sum = (rd_T50 lines (i : Int)).f1)) = true
  rw [hs, decide_eq_true rfl, decide_eq_true (show i64ok _ by unfold i64ok; omega)]
  rfl
theorem wf_range {n : Int} (h : (Lit.int .i64 n).wf = true) : i64ok n := by
  have h : (decide (IntKind.i64.min ≤ n) && decide (n ≤ IntKind.i64.max)) = true := h
  rw [Bool.and_eq_true, decide_eq_true_iff, decide_eq_true_iff] at h
  exact ⟨h.1, h.2⟩
theorem right_some (lines : List S50) (books : List S52) (m : List S54) (h1 : ∀ x ∈ m, x.f1.length ≤ 1000000) (h2 : ∀ b ∈ books, i64ok b.f2) (h3 : m.length ≤ 1000000) (h4 : books.length ≤ 1000000) : match_Right.f lines books m = some (rightFrom lines books m m.length 0 (List.replicate books.length false)) := by
  unfold match_Right.f
  rw [if_pos ⟨h1, h2, h3, h4⟩]
end Go.Proofs.YtinfcbfdeacllaaDoor.Sp
