/- interco.pairs in plain words: groups, the search, and what is answered. -/
import Derived.Test.YtmflggbpiadkjaaHandQ
import Derived.Test.YtmflggbpiadkjaaPx48
import Derived.Test.YtmflggbpiadkjaaSpecU
namespace Go.Proofs.Ytmflggbpiadkjaa.P
open Go.RowKit Go.Sort Go.Proofs.YtmflggbpiadkjaaW.PrintWords Go.Proofs.YtmflggbpiadkjaaW.PrintLast
set_option linter.unusedVariables false
set_option linter.unusedSimpArgs false
/-! ### The order of the pairs -/
def k2S (k : K2) : S32 := ⟨k.1, k.2, ⟨#[]⟩, ⟨#[]⟩, ⟨#[]⟩⟩
def pk (p : S89) : S32 := k2S (p.f0, p.f1)
theorem k2S_inj {a b : K2} (h : k2S a = k2S b) : a = b := by
  unfold k2S at h
  rw [S32.mk.injEq] at h
  exact Prod.ext h.1 h.2.1
theorem cmp_k2 (a b : K2) : cmpK (k2S a) (k2S b) = if cmpB a.1 b.1 = 0 then cmpB a.2 b.2 else cmpB a.1 b.1 := by
  have e : cmpB (⟨#[]⟩ : ByteArray) ⟨#[]⟩ = 0 := rfl
  rw [cmpK_eq]
  unfold k2S
  simp only [e, if_true]
  by_cases h : cmpB a.1 b.1 = 0
  · rw [if_pos h, if_pos h]
    by_cases h2 : cmpB a.2 b.2 = 0
    · rw [if_pos h2, h2]
    · rw [if_neg h2]
  · rw [if_neg h, if_neg h]
theorem compare_pure (x : S89) (a b : ByteArray) (n : Int) : interco_compare.f x.f0 x.f1 x.f2 a b n = some (cmpK (pk x) (k2S (a, b))) := by
  unfold interco_compare.f strings_Compare.f pk
  rw [cmp_k2]
  by_cases h : cmpB x.f0 a = 0
  · simp only [Option.bind_some, if_pos h]
  · simp only [Option.bind_some, if_neg h]
theorem rd89_at {l : List S89} {i : Nat} (h : i < l.length) : rd_T89 l (i : Int) = l[i] := by simp [rd_T89, h]
theorem mid_w {i j : Nat} (h : i + j ≤ 4000000) : wrap64 ((IntKind.u64.wrap (wrap64 ((i : Int) + (j : Int)))) / 2) = (((i + j) / 2 : Nat) : Int) := by
  have h1 : wrap64 ((i : Int) + (j : Int)) = ((i + j : Nat) : Int) := by rw [w64 (by omega) (by omega)]; omega
  have h2 : IntKind.u64.wrap ((i + j : Nat) : Int) = ((i + j : Nat) : Int) := by
    rw [IntKind.wrap_u64]; omega
  rw [h1, h2, w64 (by omega) (by omega)]
  omega
theorem search_l0 (out : List S89) (a b : ByteArray) (n : Int) (hl : out.length ≤ 1000000) (hs : SS (out.map pk)) : ∀ (d i j : Nat), j - i ≤ d → i ≤ j → j ≤ out.length →
    (∀ q (h : q < out.length), q < i → cmpK (pk out[q]) (k2S (a, b)) < 0) → (∀ q (h : q < out.length), j ≤ q → 0 ≤ cmpK (pk out[q]) (k2S (a, b))) →
    ∃ (k : Nat) (bb : Bool), Ev (fun kr => bin_search.l0 kr out (out.length : Int) (i : Int) (j : Int) a b n) ((k : Int), bb) ∧ k ≤ out.length ∧ (∀ q (h : q < out.length), q < k → cmpK (pk out[q]) (k2S (a, b)) < 0) ∧ (∀ q (h : q < out.length), k ≤ q → 0 ≤ cmpK (pk out[q]) (k2S (a, b))) := by
  have srt : ∀ (q p : Nat) (hq : q < out.length) (hp : p < out.length), q < p → cmpK (pk out[q]) (pk out[p]) < 0 := fun q p hq hp h => by
    have := List.pairwise_iff_getElem.1 hs q p (by simpa using hq) (by simpa using hp) h
    simpa using this
  intro d
  induction d with
  | zero =>
    intro i j hd hij hj h1 h2
    obtain rfl : i = j := by omega
    by_cases hlt : i < out.length
    · refine ⟨i, cmpK (pk out[i]) (k2S (a, b)) == 0, ?_, hj, h1, h2⟩
      refine Ev.step (fun k => bin_search.l0.eq_2 _ _ _ _ _ _ _ k) ?_
      simp only [if_neg (show ¬ ((i : Int) < (i : Int)) by omega), if_pos (show (i : Int) < (out.length : Int) by omega), if_pos (show (0 : Int) ≤ (i : Int) by omega), compare_pure, rd89_at hlt, Option.bind_some]
      exact Ev.now _
    · refine ⟨i, false, ?_, hj, h1, h2⟩
      refine Ev.step (fun k => bin_search.l0.eq_2 _ _ _ _ _ _ _ k) ?_
      simp only [if_neg (show ¬ ((i : Int) < (i : Int)) by omega), if_neg (show ¬ (i : Int) < (out.length : Int) by omega)]
      exact Ev.now _
  | succ d ih =>
    intro i j hd hij hj h1 h2
    by_cases hlt : i < j
    · have hm : (i + j) / 2 < out.length := by omega
      have hw : wrap64 ((((i + j) / 2 : Nat) : Int) + 1) = (((i + j) / 2 + 1 : Nat) : Int) := by rw [w64 (by omega) (by omega)]; omega
      by_cases hc : cmpK (pk out[(i + j) / 2]) (k2S (a, b)) < 0
      · obtain ⟨k, bb, he, h3⟩ := ih ((i + j) / 2 + 1) j (by omega) (by omega) hj (fun q hq hqm => by
          rcases Nat.lt_or_ge q ((i + j) / 2) with h | h
          · exact cmpK_trans (srt q _ hq hm h) hc
          · obtain rfl : q = (i + j) / 2 := by omega
            exact hc) h2
        refine ⟨k, bb, ?_, h3⟩
        refine Ev.step (fun k => bin_search.l0.eq_2 _ _ _ _ _ _ _ k) ?_
        simp only [if_pos (show ((i : Int) < (j : Int)) by omega), mid_w (show i + j ≤ 4000000 by omega), if_pos (show (0 : Int) ≤ (((i + j) / 2 : Nat) : Int) by omega), if_pos (show (((i + j) / 2 : Nat) : Int) < (out.length : Int) by omega), compare_pure, rd89_at hm, Option.bind_some, if_pos hc, hw]
        exact he
      · obtain ⟨k, bb, he, h3⟩ := ih i ((i + j) / 2) (by omega) (by omega) (by omega) h1 (fun q hq hqm => by
          rcases Nat.lt_or_ge ((i + j) / 2) q with h | h
          · have := srt _ q hm hq h
            rcases Int.lt_or_le (cmpK (pk out[q]) (k2S (a, b))) 0 with h4 | h4
            · exact absurd (cmpK_trans this h4) hc
            · exact h4
          · obtain rfl : q = (i + j) / 2 := by omega
            omega)
        refine ⟨k, bb, ?_, h3⟩
        refine Ev.step (fun k => bin_search.l0.eq_2 _ _ _ _ _ _ _ k) ?_
        simp only [if_pos (show ((i : Int) < (j : Int)) by omega), mid_w (show i + j ≤ 4000000 by omega), if_pos (show (0 : Int) ≤ (((i + j) / 2 : Nat) : Int) by omega), if_pos (show (((i + j) / 2 : Nat) : Int) < (out.length : Int) by omega), compare_pure, rd89_at hm, Option.bind_some, if_neg hc]
        exact he
    · exact ih i j (by omega) hij hj h1 h2
/-- Where a new pair goes, and what is left then. -/
theorem search_ok (out : List S89) (p : S89) (hl : out.length ≤ 1000000) (hs : SS (out.map pk)) (hn : ∀ x ∈ out, pk x ≠ pk p) :
    ∃ (kr k : Nat) (bb : Bool), bin_search.f kr out p.f0 p.f1 p.f2 = some ((k : Int), bb) ∧ k ≤ out.length ∧ SS ((out.take k ++ [p] ++ out.drop k).map pk) ∧ ∀ x, x ∈ out.take k ++ [p] ++ out.drop k ↔ x = p ∨ x ∈ out := by
  obtain ⟨k, bb, he, hk, h1, h2⟩ := search_l0 out p.f0 p.f1 p.f2 hl hs out.length 0 out.length (by omega) (by omega) (Nat.le_refl _) (fun q _ h => absurd h (by omega)) (fun q h h3 => absurd h (by omega))
  obtain ⟨kr, hkr⟩ := Ev.rounds he
  refine ⟨kr, k, bb, hkr, hk, ?_, fun x => ?_⟩
  · have ht : ∀ x ∈ out.take k, cmpK (pk x) (pk p) < 0 := fun x hx => by
      obtain ⟨q, hq, rfl⟩ := List.mem_iff_getElem.1 hx
      rw [List.length_take] at hq
      rw [List.getElem_take]
      exact h1 q (by omega) (by omega)
    have hd : ∀ x ∈ out.drop k, cmpK (pk p) (pk x) < 0 := fun x hx => by
      obtain ⟨q, hq, rfl⟩ := List.mem_iff_getElem.1 hx
      rw [List.length_drop] at hq
      rw [List.getElem_drop]
      have h3 := h2 (k + q) (by omega) (by omega)
      have h4 := hn out[k + q] (List.getElem_mem _)
      have h5 : cmpK (pk out[k + q]) (k2S (p.f0, p.f1)) ≠ 0 := fun e => h4 (cmpK_zero e)
      have h6 := cmp3_K.sw (pk out[k + q]) (k2S (p.f0, p.f1))
      show cmpK (k2S (p.f0, p.f1)) (pk out[k + q]) < 0
      omega
    have hst : SS ((out.take k).map pk) := by rw [List.map_take]; exact hs.take
    have hsd : SS ((out.drop k).map pk) := by rw [List.map_drop]; exact hs.drop
    rw [List.append_assoc, List.map_append, List.map_append]
    refine List.pairwise_append.2 ⟨hst, ?_, ?_⟩
    · refine List.pairwise_cons.2 ⟨fun x hx => ?_, hsd⟩
      obtain ⟨y, hy, rfl⟩ := List.mem_map.1 (by simpa using hx : x ∈ (out.drop k).map pk)
      exact hd y hy
    · intro x hx y hy
      obtain ⟨x', hx', rfl⟩ := List.mem_map.1 hx
      rcases List.mem_append.1 hy with hy | hy
      · simp only [List.map_cons, List.map_nil, List.mem_singleton] at hy
        subst hy
        exact ht x' hx'
      · obtain ⟨y', hy', rfl⟩ := List.mem_map.1 hy
        exact cmpK_trans (ht x' hx') (hd y' hy')
  · rw [List.mem_append, List.mem_append, List.mem_singleton]
    have e : out = out.take k ++ out.drop k := (List.take_append_drop k out).symm
    constructor
    · rintro ((h | h) | h)
      · exact .inr (List.mem_of_mem_take h)
      · exact .inl h
      · exact .inr (List.mem_of_mem_drop h)
    · rintro (h | h)
      · exact .inl (.inr h)
      · rw [e, List.mem_append] at h
        rcases h with h | h
        · exact .inl (.inl h)
        · exact .inr h
/-! ### The groups -/
def cpl (c : S34) : K2 := if Op.bytesLess c.f0.f0.toList c.f0.f3.toList = true then (c.f0.f0, c.f0.f3) else (c.f0.f3, c.f0.f0)
theorem couple_pure (c : S34) : interco_coupleOf.f c.f0.f0 c.f0.f1 c.f0.f2 c.f0.f3 c.f0.f4 = some ((cpl c).1, (cpl c).2) := by
  unfold interco_coupleOf.f cpl
  by_cases h : Op.bytesLess c.f0.f0.toList c.f0.f3.toList = true
  · rw [if_pos h, if_pos h]
  · rw [if_neg h, if_neg h]
def grpOf (l : List S34) : List (K2 × List Int) := l.foldl (fun G c => addG (cpl c) c.f2 G) []
theorem grpOf_take (l : List S34) {k : Nat} (h : k < l.length) : grpOf (l.take (k + 1)) = addG (cpl l[k]) l[k].f2 (grpOf (l.take k)) := by
  unfold grpOf
  rw [List.take_add_one, List.getElem?_eq_getElem h, List.foldl_append]
  rfl
def ck (c : S34) : S34 := ⟨k2S (cpl c), 0, c.f2⟩
theorem addG_mem {k : K2} {x : Int} : ∀ {G : List (K2 × List Int)} {q : K2 × List Int}, (G.map (·.1)).Nodup → q ∈ addG k x G → (q ∈ G ∧ q.1 ≠ k) ∨ (q.1 = k ∧ ((∃ xs, (k, xs) ∈ G ∧ q.2 = xs ++ [x]) ∨ ((∀ p ∈ G, p.1 ≠ k) ∧ q.2 = [x])))
  | [], q, _, h => by
    simp only [addG, List.mem_singleton] at h
    subst h
    exact .inr ⟨rfl, .inr ⟨fun p hp => by simp at hp, rfl⟩⟩
  | p :: r, q, hn, h => by
    rw [List.map_cons, List.nodup_cons] at hn
    unfold addG at h
    by_cases e : p.1 = k
    · rw [if_pos e] at h
      rcases List.mem_cons.1 h with rfl | h
      · exact .inr ⟨e, .inl ⟨p.2, by rw [← e]; exact List.mem_cons_self .., rfl⟩⟩
      · refine .inl ⟨List.mem_cons_of_mem _ h, fun e2 => hn.1 ?_⟩
        rw [e, ← e2]
        exact List.mem_map.2 ⟨q, h, rfl⟩
    · rw [if_neg e] at h
      rcases List.mem_cons.1 h with rfl | h
      · exact .inl ⟨List.mem_cons_self .., e⟩
      · rcases addG_mem hn.2 h with ⟨h1, h2⟩ | ⟨h1, ⟨xs, h2, h3⟩ | ⟨h2, h3⟩⟩
        · exact .inl ⟨List.mem_cons_of_mem _ h1, h2⟩
        · exact .inr ⟨h1, .inl ⟨xs, List.mem_cons_of_mem _ h2, h3⟩⟩
        · refine .inr ⟨h1, .inr ⟨fun p' hp' => ?_, h3⟩⟩
          rcases List.mem_cons.1 hp' with rfl | hp'
          · exact e
          · exact h2 p' hp'
theorem addG_keys (k : K2) (x : Int) : ∀ (G : List (K2 × List Int)) (k' : K2), k' ∈ (addG k x G).map (·.1) ↔ k' = k ∨ k' ∈ G.map (·.1)
  | [], k' => by simp [addG]
  | p :: r, k' => by
    unfold addG
    by_cases e : p.1 = k
    · rw [if_pos e]
      simp only [List.map_cons, List.mem_cons, e]
      constructor
      · rintro (h | h)
        · exact .inl h
        · exact .inr (.inr h)
      · rintro (h | h | h)
        · exact .inl h
        · exact .inl h
        · exact .inr h
    · rw [if_neg e, List.map_cons, List.mem_cons, addG_keys k x r k', List.map_cons, List.mem_cons]
      constructor
      · rintro (h | h | h)
        · exact .inr (.inl h)
        · exact .inl h
        · exact .inr (.inr h)
      · rintro (h | h | h)
        · exact .inr (.inl h)
        · exact .inl h
        · exact .inr (.inr h)
theorem addG_nodup (k : K2) (x : Int) : ∀ (G : List (K2 × List Int)), (G.map (·.1)).Nodup → ((addG k x G).map (·.1)).Nodup
  | [], _ => by simp [addG]
  | p :: r, h => by
    rw [List.map_cons, List.nodup_cons] at h
    unfold addG
    by_cases e : p.1 = k
    · rw [if_pos e, List.map_cons, List.nodup_cons]; exact h
    · rw [if_neg e, List.map_cons, List.nodup_cons]
      refine ⟨fun hm => ?_, addG_nodup k x r h.2⟩
      rcases (addG_keys k x r _).1 hm with h1 | h1
      · exact e h1
      · exact h.1 h1
structure GOk (G : List (K2 × List Int)) (m : List S34) : Prop where
  nodup : (G.map (·.1)).Nodup
  keys : ∀ k : K2, k ∈ G.map (·.1) ↔ ∃ c ∈ m, c.f0 = k2S k
  sums : ∀ q ∈ G, q.2.sum = psB (isK (k2S q.1)) m
  all : ∀ c ∈ m, ∃ k : K2, c.f0 = k2S k
  len : ∀ q ∈ G, q.2.length ≤ m.length
  ints : ∀ q ∈ G, ∀ x ∈ q.2, ∃ c ∈ m, x = c.f2
theorem GOk.step {G : List (K2 × List Int)} {m : List S34} (h : GOk G m) (k : K2) (x : Int) : GOk (addG k x G) (m ++ [⟨k2S k, 0, x⟩]) := by
  have ps : ∀ P, psB P (m ++ [⟨k2S k, 0, x⟩]) = psB P m + if P (k2S k) = true then x else 0 := fun P => by
    rw [psB_append, psB_cons, psB_nil, Int.add_zero]
  refine ⟨addG_nodup k x G h.nodup, fun k' => ?_, fun q hq => ?_, fun c hc => ?_, fun q hq => ?_, fun q hq y hy => ?_⟩
  · rw [addG_keys, h.keys]
    constructor
    · rintro (rfl | ⟨c, hc, e⟩)
      · exact ⟨⟨k2S k', 0, x⟩, by simp, rfl⟩
      · exact ⟨c, by simp [hc], e⟩
    · rintro ⟨c, hc, e⟩
      rcases List.mem_append.1 hc with hc | hc
      · exact .inr ⟨c, hc, e⟩
      · simp only [List.mem_singleton] at hc
        subst hc
        exact .inl (k2S_inj e).symm
  · rw [ps]
    rcases addG_mem h.nodup hq with ⟨h1, h2⟩ | ⟨h1, ⟨xs, h2, h3⟩ | ⟨h2, h3⟩⟩
    · rw [if_neg (fun e => h2 (k2S_inj (isK_iff.1 e))), Int.add_zero]
      exact h.sums q h1
    · rw [h1, h3, List.sum_append, List.sum_cons, List.sum_nil, Int.add_zero, if_pos (isK_iff.2 rfl), h.sums _ h2]
    · rw [h1, h3, if_pos (isK_iff.2 rfl), psB_zero (fun c hc => ?_)]
      · simp
      · rw [Bool.eq_false_iff]
        intro e
        have := isK_iff.1 e
        obtain ⟨q', hq', e'⟩ := List.mem_map.1 ((h.keys k).2 ⟨c, hc, this.symm⟩)
        exact h2 q' hq' e'
  · rcases List.mem_append.1 hc with hc | hc
    · exact h.all c hc
    · simp only [List.mem_singleton] at hc
      subst hc
      exact ⟨k, rfl⟩
  · rw [List.length_append]
    rcases addG_mem h.nodup hq with ⟨h1, h2⟩ | ⟨h1, ⟨xs, h2, h3⟩ | ⟨h2, h3⟩⟩
    · have := h.len q h1; simp; omega
    · have := h.len _ h2
      rw [h3, List.length_append]
      simp only [List.length_cons, List.length_nil]
      simp only at this
      omega
    · rw [h3]; simp
  · rcases addG_mem h.nodup hq with ⟨h1, h2⟩ | ⟨h1, ⟨xs, h2, h3⟩ | ⟨h2, h3⟩⟩
    · obtain ⟨c, hc, e⟩ := h.ints q h1 y hy
      exact ⟨c, by simp [hc], e⟩
    · rw [h3] at hy
      rcases List.mem_append.1 hy with hy | hy
      · obtain ⟨c, hc, e⟩ := h.ints _ h2 y hy
        exact ⟨c, by simp [hc], e⟩
      · simp only [List.mem_singleton] at hy
        subst hy
        exact ⟨⟨k2S k, 0, y⟩, by simp, rfl⟩
    · rw [h3] at hy
      simp only [List.mem_singleton] at hy
      subst hy
      exact ⟨⟨k2S k, 0, y⟩, by simp, rfl⟩
theorem gok (l : List S34) : GOk (grpOf l) (l.map ck) := by
  have gen : ∀ (l : List S34) (G : List (K2 × List Int)) (m : List S34), GOk G m → GOk (l.foldl (fun G c => addG (cpl c) c.f2 G) G) (m ++ l.map ck) := by
    intro l
    induction l with
    | nil => intro G m h; simpa using h
    | cons c r ih =>
      intro G m h
      have := ih (addG (cpl c) c.f2 G) (m ++ [ck c]) (h.step (cpl c) c.f2)
      rw [List.append_assoc] at this
      exact this
  have := gen l [] [] ⟨List.nodup_nil, fun k => by simp, fun q hq => by simp at hq, fun c hc => by simp at hc, fun q hq => by simp at hq, fun q hq => by simp at hq⟩
  simpa [grpOf] using this
/-! ### What pairs answers -/
def prK (l : List S34) : List S89 × Int :=
  if (keysK (l.map ck)).all (fun k => fitB (sumB (l.map ck) k)) = true then ((keysK (l.map ck)).map (fun k => ⟨k.f0, k.f1, sumB (l.map ck) k⟩), 0) else ([], 4)
def pairOf (q : K2 × List Int) : S89 := ⟨q.1.1, q.1.2, if i64ok q.2.sum then q.2.sum else 0⟩
theorem pk_pairOf (q : K2 × List Int) : pk (pairOf q) = k2S q.1 := rfl
theorem key_of {l : List S34} {k : S32} (hk : k ∈ keysK (l.map ck)) : ∃ q ∈ grpOf l, k = k2S q.1 ∧ q.2.sum = sumB (l.map ck) k := by
  obtain ⟨c, hc, rfl⟩ := (mem_keysK k _).1 hk
  obtain ⟨k2, e⟩ := (gok l).all c hc
  obtain ⟨q, hq, e2⟩ := List.mem_map.1 (((gok l).keys k2).2 ⟨c, hc, e⟩)
  refine ⟨q, hq, by rw [e, ← e2], ?_⟩
  rw [sumB_ps, e, ← e2]
  exact (gok l).sums q hq
theorem of_key {l : List S34} {q : K2 × List Int} (hq : q ∈ grpOf l) : k2S q.1 ∈ keysK (l.map ck) ∧ q.2.sum = sumB (l.map ck) (k2S q.1) := by
  obtain ⟨c, hc, e⟩ := ((gok l).keys q.1).1 (List.mem_map.2 ⟨q, hq, rfl⟩)
  exact ⟨(mem_keysK _ _).2 ⟨c, hc, e⟩, (gok l).sums q hq⟩
theorem pr_end (l : List S34) (out : List S89) (over : Bool) (hs : SS (out.map pk)) (hm : ∀ p, p ∈ out ↔ ∃ q ∈ grpOf l, p = pairOf q) (ho : over = true ↔ ∃ q ∈ grpOf l, fitB q.2.sum = false) :
    (if over = true then (([] : List S89), (4 : Int)) else (out, 0)) = prK l := by
  unfold prK
  by_cases h : over = true
  · rw [if_pos h, if_neg]
    obtain ⟨q, hq, e⟩ := ho.1 h
    have := of_key hq
    rw [List.all_eq_true]
    intro hall
    have := hall _ this.1
    rw [← (of_key hq).2, e] at this
    cases this
  · have hfit : ∀ q ∈ grpOf l, fitB q.2.sum = true := fun q hq => by
      cases hf : fitB q.2.sum with
      | true => rfl
      | false => exact absurd (ho.2 ⟨q, hq, hf⟩) h
    rw [if_neg h, if_pos (List.all_eq_true.2 (fun k hk => by
      obtain ⟨q, hq, rfl, e⟩ := key_of hk
      rw [← e]
      exact hfit q hq))]
    have hk : out.map pk = keysK (l.map ck) := ss_unique hs (ss_keysK _) (fun k => by
      constructor
      · intro hk
        obtain ⟨p, hp, rfl⟩ := List.mem_map.1 hk
        obtain ⟨q, hq, rfl⟩ := (hm p).1 hp
        exact (of_key hq).1
      · intro hk
        obtain ⟨q, hq, rfl, _⟩ := key_of hk
        exact List.mem_map.2 ⟨pairOf q, (hm _).2 ⟨q, hq, rfl⟩, rfl⟩)
    rw [← hk, List.map_map]
    have e : out = out.map ((fun k : S32 => (⟨k.f0, k.f1, sumB (l.map ck) k⟩ : S89)) ∘ pk) := by
      have e1 : out.map ((fun k : S32 => (⟨k.f0, k.f1, sumB (l.map ck) k⟩ : S89)) ∘ pk) = out.map id := List.map_congr_left (fun p hp => by
        obtain ⟨q, hq, rfl⟩ := (hm p).1 hp
        have h1 := hfit q hq
        show (⟨q.1.1, q.1.2, sumB (l.map ck) (k2S q.1)⟩ : S89) = ⟨q.1.1, q.1.2, if i64ok q.2.sum then q.2.sum else 0⟩
        rw [if_pos (fit_i64 h1), (of_key hq).2])
      rw [e1, List.map_id]
    exact congrArg (fun x => (x, (0 : Int))) e
end Go.Proofs.Ytmflggbpiadkjaa.P
