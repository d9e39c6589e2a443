/- Texts of mine, joined: SpecW, SpecC. -/
import Derived.Test.YtmflggbpiadkjaaOpnJ
import Derived.Test.YtmflggbpiadkjaaHandJ
import Derived.Test.YtmflggbpiadkjaaRgtJ
/- Words for the sheet laws. -/
namespace Go.Proofs.Ytmflggbpiadkjaa.P
open Go.RowKit Go.Sort Go.Proofs.YtmflggbpiadkjaaW.PrintWords Go.Proofs.YtmflggbpiadkjaaW.PrintLast Go.Proofs.Ytmflggbpiadkjaa.Op
set_option linter.unusedVariables false
set_option linter.unusedSimpArgs false
theorem w64 {n : Int} (h1 : -9223372036854775808 ≤ n) (h2 : n ≤ 9223372036854775807) : wrap64 n = n := by unfold wrap64; omega
theorem rd_at {l : List Int} {i : Nat} (h : i < l.length) : rd l (i : Int) = l[i] := by simp [rd, h]
theorem rd34_at {l : List S34} {i : Nat} (h : i < l.length) : rd_T34 l (i : Int) = l[i] := by simp [rd_T34, h]
theorem rd32_at {l : List S32} {i : Nat} (h : i < l.length) : rd_T32 l (i : Int) = l[i] := by simp [rd_T32, h]
theorem wf_range {n : Int} (h : (Lit.int .i64 n).wf = true) : i64ok n := by
  have h : (decide (IntKind.i64.min ≤ n) && decide (n ≤ IntKind.i64.max)) = true := h
  rw [Bool.and_eq_true, decide_eq_true_iff, decide_eq_true_iff] at h
  exact ⟨h.1, h.2⟩
theorem okS_fit {l : List S34} (h : (FitL fit34) l) (hl : l.length ≤ 1000000) : OkS l :=
  ⟨hl, fun x hx => ⟨wf_range (h.2 x hx).2.1, wf_range (h.2 x hx).2.2⟩⟩
theorem ba_beq (a b : ByteArray) : (a.toList == b.toList) = true ↔ a = b := by
  rw [beq_iff_eq]
  exact ⟨fun h => ByteArray.ext (Array.ext' (by rw [← ByteArray.toList_eq a, ← ByteArray.toList_eq b]; exact h)), fun h => by rw [h]⟩
/-- How the print holds two keys against each other. -/
theorem key_beq (x y : S32) : (x.f0.toList == y.f0.toList && (x.f1.toList == y.f1.toList && (x.f2.toList == y.f2.toList && (x.f3.toList == y.f3.toList && (x.f4.toList == y.f4.toList))))) = decide (cmpK x y = 0) := by
  rw [Bool.eq_iff_iff, decide_eq_true_iff]
  simp only [Bool.and_eq_true, ba_beq]
  constructor
  · rintro ⟨h0, h1, h2, h3, h4⟩
    have e : x = y := by
      obtain ⟨a, b, c, d, e⟩ := x
      obtain ⟨a', b', c', d', e'⟩ := y
      rw [S32.mk.injEq]
      exact ⟨h0, h1, h2, h3, h4⟩
    rw [e]; exact cmpK_self y
  · intro h
    have e := cmpK_zero h
    subst e
    exact ⟨rfl, rfl, rfl, rfl, rfl⟩
end Go.Proofs.Ytmflggbpiadkjaa.P

/- Sheets in plain words: what Of answers is known by its sums alone. -/
namespace Go.Proofs.Ytmflggbpiadkjaa.P
open Go.RowKit Go.Sort Go.Proofs.YtmflggbpiadkjaaW.PrintWords Go.Proofs.YtmflggbpiadkjaaW.PrintLast
set_option linter.unusedVariables false
set_option linter.unusedSimpArgs false
/-- The sums over the cells whose keys a test lets through. -/
def psA (P : S32 → Bool) (l : List S34) : Int := (amts (l.filter (fun c => P c.f0))).sum
def psB (P : S32 → Bool) (l : List S34) : Int := (bass (l.filter (fun c => P c.f0))).sum
theorem psA_nil (P : S32 → Bool) : psA P [] = 0 := rfl
theorem psB_nil (P : S32 → Bool) : psB P [] = 0 := rfl
theorem psA_cons (P : S32 → Bool) (c : S34) (r : List S34) : psA P (c :: r) = (if P c.f0 = true then c.f1 else 0) + psA P r := by
  unfold psA
  by_cases h : P c.f0 = true
  · rw [List.filter_cons_of_pos (by exact h), if_pos h]; rfl
  · rw [List.filter_cons_of_neg (by exact h), if_neg h, Int.zero_add]
theorem psB_cons (P : S32 → Bool) (c : S34) (r : List S34) : psB P (c :: r) = (if P c.f0 = true then c.f2 else 0) + psB P r := by
  unfold psB
  by_cases h : P c.f0 = true
  · rw [List.filter_cons_of_pos (by exact h), if_pos h]; rfl
  · rw [List.filter_cons_of_neg (by exact h), if_neg h, Int.zero_add]
theorem psA_append (P : S32 → Bool) : ∀ (a b : List S34), psA P (a ++ b) = psA P a + psA P b
  | [], b => by rw [List.nil_append, psA_nil, Int.zero_add]
  | c :: a, b => by rw [List.cons_append, psA_cons, psA_cons, psA_append P a b]; omega
theorem psB_append (P : S32 → Bool) : ∀ (a b : List S34), psB P (a ++ b) = psB P a + psB P b
  | [], b => by rw [List.nil_append, psB_nil, Int.zero_add]
  | c :: a, b => by rw [List.cons_append, psB_cons, psB_cons, psB_append P a b]; omega
def isK (k : S32) (x : S32) : Bool := decide (cmpK k x = 0)
theorem isK_iff {k x : S32} : isK k x = true ↔ k = x := by
  unfold isK
  rw [decide_eq_true_iff]
  exact ⟨cmpK_zero, fun h => by rw [h]; exact cmpK_self x⟩
theorem sumA_ps (l : List S34) (k : S32) : sumA l k = psA (isK k) l := rfl
theorem sumB_ps (l : List S34) (k : S32) : sumB l k = psB (isK k) l := rfl
theorem psA_zero {P : S32 → Bool} : ∀ {l : List S34}, (∀ c ∈ l, P c.f0 = false) → psA P l = 0
  | [], _ => rfl
  | c :: r, h => by rw [psA_cons, if_neg (by rw [h c (by simp)]; decide), psA_zero (fun x hx => h x (by simp [hx]))]; rfl
theorem psB_zero {P : S32 → Bool} : ∀ {l : List S34}, (∀ c ∈ l, P c.f0 = false) → psB P l = 0
  | [], _ => rfl
  | c :: r, h => by rw [psB_cons, if_neg (by rw [h c (by simp)]; decide), psB_zero (fun x hx => h x (by simp [hx]))]; rfl
theorem sumA_none {l : List S34} {k : S32} (h : k ∉ keysK l) : sumA l k = 0 := by
  rw [sumA_ps]
  refine psA_zero (fun c hc => ?_)
  rw [Bool.eq_false_iff]
  intro e
  exact h ((mem_keysK k l).2 ⟨c, hc, (isK_iff.1 e).symm⟩)
theorem sumB_none {l : List S34} {k : S32} (h : k ∉ keysK l) : sumB l k = 0 := by
  rw [sumB_ps]
  refine psB_zero (fun c hc => ?_)
  rw [Bool.eq_false_iff]
  intro e
  exact h ((mem_keysK k l).2 ⟨c, hc, (isK_iff.1 e).symm⟩)
/-! ### Of by the keys' cells -/
def cellOf (l : List S34) (k : S32) : S34 := ⟨k, sumA l k, sumB l k⟩
def nzC (c : S34) : Bool := decide (c.f1 ≠ 0 ∨ c.f2 ≠ 0)
def fitK (l : List S34) (k : S32) : Bool := fitB (sumA l k) && fitB (sumB l k)
theorem cells_1 (l : List S34) : ∀ (ks : List S32) (out : List S34), (cellsK l ks out).1 = ks.all (fitK l)
  | [], out => rfl
  | k :: t, out => by
    unfold cellsK
    rw [List.all_cons]
    rw [show (fitB (sumA l k) && fitB (sumB l k)) = fitK l k from rfl]
    cases h : fitK l k with
    | true => rw [if_pos rfl, Bool.true_and]; exact cells_1 l t _
    | false => rw [if_neg (by decide), Bool.false_and]
theorem cells_2 (l : List S34) : ∀ (ks : List S32) (out : List S34), ks.all (fitK l) = true → (cellsK l ks out).2 = out ++ (ks.map (cellOf l)).filter nzC
  | [], out, _ => by simp [cellsK]
  | k :: t, out, h => by
    rw [List.all_cons, Bool.and_eq_true] at h
    unfold cellsK
    have h1 : (fitB (sumA l k) && fitB (sumB l k)) = true := h.1
    rw [if_pos h1, cells_2 l t _ h.2, List.map_cons]
    by_cases c : sumA l k ≠ 0 ∨ sumB l k ≠ 0
    · rw [if_pos c, List.filter_cons_of_pos (by exact decide_eq_true c), List.append_assoc]
      rfl
    · rw [if_neg c, List.filter_cons_of_neg (by unfold nzC; rw [decide_eq_true_iff]; exact c)]
theorem ofK_eq (l : List S34) : ofK l = if (keysK l).all (fitK l) = true then (((keysK l).map (cellOf l)).filter nzC, 0) else ([], 4) := by
  unfold ofK
  rw [cells_1]
  by_cases h : (keysK l).all (fitK l) = true
  · rw [if_pos h, if_pos h, cells_2 l _ _ h, List.nil_append]
  · rw [if_neg h, if_neg h]
theorem fit_all (l : List S34) : (keysK l).all (fitK l) = true ↔ ∀ k, fitK l k = true := by
  rw [List.all_eq_true]
  constructor
  · intro h k
    by_cases hk : k ∈ keysK l
    · exact h k hk
    · unfold fitK
      rw [sumA_none hk, sumB_none hk]
      decide
  · exact fun h k _ => h k
theorem filter_map_keys (l : List S34) (ks : List S32) : (ks.map (cellOf l)).filter nzC = (ks.filter (fun k => nzC (cellOf l k))).map (cellOf l) := by
  rw [List.filter_map]; rfl
theorem ofK_congr {l m : List S34} (h : ∀ k, sumA l k = sumA m k ∧ sumB l k = sumB m k) : ofK l = ofK m := by
  have hf : ∀ k, fitK l k = fitK m k := fun k => by unfold fitK; rw [(h k).1, (h k).2]
  have hc : ∀ k, cellOf l k = cellOf m k := fun k => by unfold cellOf; rw [(h k).1, (h k).2]
  rw [ofK_eq, ofK_eq]
  by_cases ha : (keysK l).all (fitK l) = true
  · have hb : (keysK m).all (fitK m) = true := (fit_all m).2 (fun k => by rw [← hf]; exact (fit_all l).1 ha k)
    rw [if_pos ha, if_pos hb, filter_map_keys, filter_map_keys]
    have e : (keysK l).filter (fun k => nzC (cellOf l k)) = (keysK m).filter (fun k => nzC (cellOf m k)) := by
      have nz : ∀ (x : List S34) (k : S32), nzC (cellOf x k) = true → k ∈ keysK x := by
        intro x k hk
        by_cases hm : k ∈ keysK x
        · exact hm
        · unfold cellOf nzC at hk
          simp only [sumA_none hm, sumB_none hm] at hk
          simp at hk
      refine ss_unique ((ss_keysK l).filter _) ((ss_keysK m).filter _) (fun k => ?_)
      rw [List.mem_filter, List.mem_filter]
      constructor
      · rintro ⟨_, h2⟩
        have h2 : nzC (cellOf l k) = true := h2
        rw [hc] at h2
        exact ⟨nz m k h2, h2⟩
      · rintro ⟨_, h2⟩
        have h2 : nzC (cellOf m k) = true := h2
        exact ⟨nz l k (by rw [hc]; exact h2), by show nzC (cellOf l k) = true; rw [hc]; exact h2⟩
    rw [e]
    congr 1
    exact List.map_congr_left (fun k _ => hc k)
  · have hb : ¬ (keysK m).all (fitK m) = true := fun hb => ha ((fit_all l).2 (fun k => by rw [hf]; exact (fit_all m).1 hb k))
    rw [if_neg ha, if_neg hb]
theorem ofK_code (l : List S34) : (ofK l).2 = 0 ∨ ofK l = ([], 4) := by
  rw [ofK_eq]
  by_cases h : (keysK l).all (fitK l) = true
  · rw [if_pos h]; exact .inl rfl
  · rw [if_neg h]; exact .inr rfl
theorem ofK_fit {l : List S34} (h : (ofK l).2 = 0) : ∀ k, fitK l k = true := by
  rw [ofK_eq] at h
  by_cases hf : (keysK l).all (fitK l) = true
  · exact (fit_all l).1 hf
  · rw [if_neg hf] at h; cases h
theorem ofK_ok {l : List S34} (h : ∀ k, fitK l k = true) : ofK l = (((keysK l).map (cellOf l)).filter nzC, 0) := by
  rw [ofK_eq, if_pos ((fit_all l).2 h)]
/-! ### The sums of what Of answers -/
theorem ps_map (P : S32 → Bool) (l : List S34) : ∀ (ks : List S32), psA P (ks.map (cellOf l)) = ((ks.filter P).map (sumA l)).sum ∧ psB P (ks.map (cellOf l)) = ((ks.filter P).map (sumB l)).sum
  | [] => ⟨rfl, rfl⟩
  | k :: t => by
    have ih := ps_map P l t
    rw [List.map_cons, psA_cons, psB_cons, ih.1, ih.2]
    by_cases h : P k = true
    · rw [List.filter_cons_of_pos h, if_pos (by exact h), if_pos (by exact h)]; exact ⟨rfl, rfl⟩
    · rw [List.filter_cons_of_neg h, if_neg (by exact h), if_neg (by exact h), Int.zero_add, Int.zero_add]; exact ⟨rfl, rfl⟩
theorem ps_nz (P : S32 → Bool) : ∀ (l : List S34), psA P (l.filter nzC) = psA P l ∧ psB P (l.filter nzC) = psB P l
  | [] => ⟨rfl, rfl⟩
  | c :: r => by
    have ih := ps_nz P r
    by_cases h : nzC c = true
    · rw [List.filter_cons_of_pos h, psA_cons, psB_cons, psA_cons, psB_cons, ih.1, ih.2]; exact ⟨rfl, rfl⟩
    · rw [List.filter_cons_of_neg h, psA_cons, psB_cons, ih.1, ih.2]
      unfold nzC at h
      rw [decide_eq_true_iff] at h
      have h1 : c.f1 = 0 := by omega
      have h2 : c.f2 = 0 := by omega
      rw [h1, h2]
      constructor <;> (split <;> omega)
theorem sum_zero {α : Type} (f : α → Int) : ∀ (l : List α), (∀ x ∈ l, f x = 0) → (l.map f).sum = 0
  | [], _ => rfl
  | a :: l, h => by rw [List.map_cons, List.sum_cons, h a (by simp), sum_zero f l (fun x hx => h x (by simp [hx]))]; rfl
theorem sum_one (f : S32 → Int) (a : S32) : ∀ (ks : List S32), SS ks → a ∈ ks → (∀ k ∈ ks, k ≠ a → f k = 0) → (ks.map f).sum = f a
  | [], _, h, _ => by simp at h
  | k :: t, hs, h, h0 => by
    have hs' := List.pairwise_cons.1 hs
    rw [List.map_cons, List.sum_cons]
    by_cases e : k = a
    · subst e
      rw [sum_zero f t (fun x hx => h0 x (by simp [hx]) (fun e => by
        have := hs'.1 x hx
        rw [e, cmpK_self] at this
        omega))]
      omega
    · rw [h0 k (by simp) e, Int.zero_add]
      exact sum_one f a t hs'.2 (by rcases List.mem_cons.1 h with h | h; exact absurd h.symm e; exact h) (fun x hx hne => h0 x (by simp [hx]) hne)
theorem sum_addf (f g : S32 → Int) : ∀ (ks : List S32), (ks.map (fun k => f k + g k)).sum = (ks.map f).sum + (ks.map g).sum
  | [] => rfl
  | k :: t => by
    have ih := sum_addf f g t
    simp only [List.map_cons, List.sum_cons]
    omega
theorem sum_keys (P : S32 → Bool) (ks : List S32) (hs : SS ks) : ∀ (l : List S34), (∀ c ∈ l, c.f0 ∈ ks) → ((ks.filter P).map (sumA l)).sum = psA P l ∧ ((ks.filter P).map (sumB l)).sum = psB P l
  | [], _ => ⟨sum_zero _ _ (fun _ _ => rfl), sum_zero _ _ (fun _ _ => rfl)⟩
  | c :: r, h => by
    have ih := sum_keys P ks hs r (fun x hx => h x (by simp [hx]))
    have eA : sumA (c :: r) = fun k => (if isK k c.f0 = true then c.f1 else 0) + sumA r k := funext fun k => psA_cons (isK k) c r
    have eB : sumB (c :: r) = fun k => (if isK k c.f0 = true then c.f2 else 0) + sumB r k := funext fun k => psB_cons (isK k) c r
    rw [eA, eB, sum_addf, sum_addf, ih.1, ih.2, psA_cons, psB_cons]
    have hss : SS (ks.filter P) := hs.filter _
    by_cases hp : P c.f0 = true
    · have hm : c.f0 ∈ ks.filter P := List.mem_filter.2 ⟨h c (by simp), hp⟩
      have hz : ∀ (v : Int), ∀ k ∈ ks.filter P, k ≠ c.f0 → (if isK k c.f0 = true then v else 0) = 0 := fun v k _ hne => if_neg (fun e => hne (isK_iff.1 e))
      rw [sum_one _ c.f0 _ hss hm (hz c.f1), sum_one _ c.f0 _ hss hm (hz c.f2), if_pos hp, if_pos hp, if_pos (isK_iff.2 rfl), if_pos (isK_iff.2 rfl)]
      exact ⟨rfl, rfl⟩
    · have hz : ∀ (v : Int), ∀ k ∈ ks.filter P, (if isK k c.f0 = true then v else 0) = 0 := fun v k hk => if_neg (fun e => hp (by rw [← isK_iff.1 e]; exact (List.mem_filter.1 hk).2))
      rw [sum_zero _ _ (hz c.f1), sum_zero _ _ (hz c.f2), if_neg hp, if_neg hp]
      exact ⟨rfl, rfl⟩
/-- Of changes no sum. -/
theorem ps_ofK {l : List S34} (h : (ofK l).2 = 0) (P : S32 → Bool) : psA P (ofK l).1 = psA P l ∧ psB P (ofK l).1 = psB P l := by
  rw [ofK_ok (ofK_fit h)]
  have h1 := ps_nz P ((keysK l).map (cellOf l))
  have h2 := ps_map P l (keysK l)
  have h3 := sum_keys P (keysK l) (ss_keysK l) l (fun c hc => (mem_keysK c.f0 l).2 ⟨c, hc, rfl⟩)
  exact ⟨h1.1.trans (h2.1.trans h3.1), h1.2.trans (h2.2.trans h3.2)⟩
/-! ### Sheets -/
def RightL (s : List S34) : Prop := (∀ c ∈ s, badC c = false) ∧ SS (s.map S34.f0)
theorem rd34_get {l : List S34} {i : Nat} (h : i < l.length) : rd_T34 l (i : Int) = l[i] := by simp [rd_T34, h]
theorem right_iff (s : List S34) : rightB s = true ↔ RightL s := by
  unfold rightB RightL
  rw [List.all_eq_true]
  constructor
  · intro h
    have hb : ∀ (i : Nat) (hi : i < s.length), badC s[i] = false ∧ (∀ h0 : 0 < i, cmpK (s[i - 1]'(by omega)).f0 s[i].f0 < 0) := by
      intro i hi
      have h1 := h i (List.mem_range.2 hi)
      unfold badAt at h1
      rw [rd34_get hi, Bool.not_or, Bool.and_eq_true] at h1
      refine ⟨by simpa using h1.1, fun h0 => ?_⟩
      have h2 := h1.2
      rw [decide_eq_true h0, Bool.true_and, rd34_get (show i - 1 < s.length by omega), Bool.not_eq_true', decide_eq_false_iff_not] at h2
      omega
    refine ⟨fun c hc => ?_, ?_⟩
    · obtain ⟨i, hi, rfl⟩ := List.mem_iff_getElem.1 hc
      exact (hb i hi).1
    · refine List.pairwise_iff_getElem.2 (fun i j hi hj hij => ?_)
      rw [List.length_map] at hi hj
      rw [List.getElem_map, List.getElem_map]
      have step : ∀ d, i + d + 1 < s.length → (hd : i + d + 1 < s.length) → cmpK s[i].f0 (s[i + d + 1]).f0 < 0 := by
        intro d
        induction d with
        | zero => intro _ hd; exact (hb (i + 1) hd).2 (by omega)
        | succ d ih =>
          intro _ hd
          have h1 := ih (by omega) (by omega)
          have h2 := (hb (i + (d + 1) + 1) hd).2 (by omega)
          exact cmpK_trans h1 h2
      obtain ⟨d, rfl⟩ : ∃ d, j = i + d + 1 := ⟨j - i - 1, by omega⟩
      exact step d hj hj
  · rintro ⟨h1, h2⟩ i hi
    rw [List.mem_range] at hi
    unfold badAt
    rw [rd34_get hi, h1 _ (List.getElem_mem hi), Bool.false_or]
    by_cases h0 : 0 < i
    · have h3 := List.pairwise_iff_getElem.1 h2 (i - 1) i (by rw [List.length_map]; omega) (by rw [List.length_map]; omega) (by omega)
      rw [List.getElem_map, List.getElem_map] at h3
      rw [decide_eq_true h0, Bool.true_and, rd34_get (show i - 1 < s.length by omega), decide_eq_false (by omega)]
      rfl
    · rw [decide_eq_false h0]; rfl
theorem bad_iff (c : S34) : badC c = false ↔ nzC c = true ∧ fitB c.f1 = true ∧ fitB c.f2 = true := by
  unfold badC nzC
  by_cases h1 : c.f1 = 0 <;> by_cases h2 : c.f2 = 0 <;> cases fitB c.f1 <;> cases fitB c.f2 <;> simp [h1, h2]
theorem right_ofK (l : List S34) : RightL (ofK l).1 := by
  rcases ofK_code l with h | h
  · have hf := ofK_fit h
    rw [ofK_ok hf]
    refine ⟨fun c hc => ?_, ?_⟩
    · have h1 := List.mem_filter.1 hc
      obtain ⟨k, hk, rfl⟩ := List.mem_map.1 h1.1
      have h2 := hf k
      unfold fitK at h2
      rw [Bool.and_eq_true] at h2
      exact (bad_iff _).2 ⟨h1.2, h2.1, h2.2⟩
    · refine List.Pairwise.sublist (List.filter_sublist.map _) ?_
      rw [List.map_map, show (S34.f0 ∘ cellOf l) = id from rfl, List.map_id]
      exact ss_keysK l
  · rw [h]
    exact ⟨fun c hc => by simp at hc, List.Pairwise.nil⟩
theorem rightB_ofK (l : List S34) : rightB (ofK l).1 = true := (right_iff _).2 (right_ofK l)
/-- A sheet is what Of makes of it. -/
theorem keysK_ss : ∀ (s : List S34), SS (s.map S34.f0) → keysK s = s.map S34.f0 := fun s h =>
  ss_unique (ss_keysK s) h (fun k => by rw [mem_keysK, List.mem_map])
theorem ps_in (s : List S34) (h : SS (s.map S34.f0)) : ∀ c ∈ s, sumA s c.f0 = c.f1 ∧ sumB s c.f0 = c.f2 := by
  induction s with
  | nil => intro c hc; simp at hc
  | cons x r ih =>
    have h' := List.pairwise_cons.1 h
    intro c hc
    have hx : ∀ y ∈ r, cmpK x.f0 y.f0 < 0 := fun y hy => h'.1 y.f0 (List.mem_map.2 ⟨y, hy, rfl⟩)
    rcases List.mem_cons.1 hc with rfl | hc
    · rw [sumA_ps, sumB_ps, psA_cons, psB_cons, if_pos (isK_iff.2 rfl), if_pos (isK_iff.2 rfl), psA_zero (fun y hy => by unfold isK; exact decide_eq_false (by have := hx y hy; omega)), psB_zero (fun y hy => by unfold isK; exact decide_eq_false (by have := hx y hy; omega))]
      exact ⟨Int.add_zero _, Int.add_zero _⟩
    · have hn : ¬ isK c.f0 x.f0 = true := fun e => by
        have h1 := hx c hc
        rw [isK_iff.1 e, cmpK_self] at h1
        omega
      rw [sumA_ps, sumB_ps, psA_cons, psB_cons, if_neg hn, if_neg hn, Int.zero_add, Int.zero_add]
      exact ih h'.2 c hc
theorem ofK_right {s : List S34} (h : RightL s) : ofK s = (s, 0) := by
  have hk := keysK_ss s h.2
  have hc : ∀ c ∈ s, cellOf s c.f0 = c := fun c hc => by
    unfold cellOf
    have := ps_in s h.2 c hc
    rw [this.1, this.2]
  have hall : (keysK s).all (fitK s) = true := by
    rw [List.all_eq_true]
    intro k hk
    obtain ⟨c, hc0, rfl⟩ := (mem_keysK k s).1 hk
    have h1 := (bad_iff c).1 (h.1 c hc0)
    have h2 := ps_in s h.2 c hc0
    unfold fitK
    rw [h2.1, h2.2, h1.2.1, h1.2.2]
    rfl
  rw [ofK_eq, if_pos hall, hk, List.map_map]
  have e : s.map (cellOf s ∘ S34.f0) = s := by
    have : s.map (cellOf s ∘ S34.f0) = s.map id := List.map_congr_left (fun c hc0 => hc c hc0)
    rw [this, List.map_id]
  rw [e, List.filter_eq_self.2 (fun c hc0 => ((bad_iff c).1 (h.1 c hc0)).1)]
theorem insK_len (k : S32) : ∀ (ks : List S32), (insK k ks).length ≤ ks.length + 1
  | [] => Nat.le_refl _
  | a :: b => by
    have ih := insK_len k b
    unfold insK
    by_cases h1 : cmpK k a < 0
    · rw [if_pos h1]; simp
    · rw [if_neg h1]
      by_cases h2 : cmpK k a = 0
      · rw [if_pos h2]; simp
      · rw [if_neg h2]; simp only [List.length_cons]; omega
theorem keysK_le : ∀ (l : List S34), (keysK l).length ≤ l.length
  | [] => Nat.le_refl _
  | c :: r => by
    have := insK_len c.f0 (keysK r)
    have := keysK_le r
    unfold keysK
    simp only [List.length_cons]
    omega
theorem ofK_le (l : List S34) : (ofK l).1.length ≤ l.length := by
  rcases ofK_code l with h | h
  · rw [ofK_ok (ofK_fit h)]
    refine Nat.le_trans (List.length_filter_le _ _) ?_
    rw [List.length_map]
    exact keysK_le l
  · rw [h]; exact Nat.zero_le _
theorem ofK_len {l : List S34} (h : OkS l) : (ofK l).1.length ≤ 1000000 := Nat.le_trans (ofK_le l) h.1
theorem fit_i64' {n : Int} (h : fitB n = true) : i64ok n := fit_i64 h
theorem okS_right {s : List S34} (h : RightL s) (hl : s.length ≤ 1000000) : OkS s :=
  ⟨hl, fun x hx => ⟨fit_i64 ((bad_iff x).1 (h.1 x hx)).2.1, fit_i64 ((bad_iff x).1 (h.1 x hx)).2.2⟩⟩
theorem okS_ofK {l : List S34} (h : OkS l) : OkS (ofK l).1 := okS_right (right_ofK l) (ofK_len h)
theorem bytes_bnd : ∀ (a b : List UInt8), -1 ≤ Lib.compareBytes a b ∧ Lib.compareBytes a b ≤ 1
  | [], [] => by decide
  | [], _ :: _ => (by decide : -1 ≤ (-1 : Int) ∧ (-1 : Int) ≤ 1)
  | _ :: _, [] => (by decide : -1 ≤ (1 : Int) ∧ (1 : Int) ≤ 1)
  | x :: a, y :: b => by
    unfold Lib.compareBytes
    by_cases h1 : x < y
    · rw [if_pos h1]; decide
    · rw [if_neg h1]
      by_cases h2 : y < x
      · rw [if_pos h2]; decide
      · rw [if_neg h2]; exact bytes_bnd a b
theorem cmpK_bnd (x y : S32) : -1 ≤ cmpK x y ∧ cmpK x y ≤ 1 := by
  have h : ∀ a b, -1 ≤ cmpB a b ∧ cmpB a b ≤ 1 := fun a b => bytes_bnd _ _
  rw [cmpK_eq]
  repeat' split
  all_goals exact h _ _
/-! ### Negation -/
def negC (c : S34) : S34 := ⟨c.f0, -c.f1, -c.f2⟩
theorem ps_neg (P : S32 → Bool) : ∀ (l : List S34), psA P (l.map negC) = - psA P l ∧ psB P (l.map negC) = - psB P l
  | [] => ⟨rfl, rfl⟩
  | c :: r => by
    have ih := ps_neg P r
    rw [List.map_cons, psA_cons, psB_cons, psA_cons, psB_cons, ih.1, ih.2]
    show (if P c.f0 = true then -c.f1 else 0) + _ = _ ∧ (if P c.f0 = true then -c.f2 else 0) + _ = _
    by_cases h : P c.f0 = true
    · rw [if_pos h, if_pos h, if_pos h, if_pos h]; constructor <;> omega
    · rw [if_neg h, if_neg h, if_neg h, if_neg h]; constructor <;> omega
/-! ### Other keys -/
def rekey (g : S32 → S32) (c : S34) : S34 := ⟨g c.f0, c.f1, c.f2⟩
theorem ps_rekey (g : S32 → S32) (P : S32 → Bool) : ∀ (l : List S34), psA P (l.map (rekey g)) = psA (fun k => P (g k)) l ∧ psB P (l.map (rekey g)) = psB (fun k => P (g k)) l
  | [] => ⟨rfl, rfl⟩
  | c :: r => by
    have ih := ps_rekey g P r
    rw [List.map_cons, psA_cons, psB_cons, psA_cons, psB_cons, ih.1, ih.2]
    exact ⟨rfl, rfl⟩
theorem bass_ps (l : List S34) : (bass l).sum = psB (fun _ => true) l := by
  unfold psB
  rw [List.filter_eq_self.2 (fun _ _ => rfl)]
end Go.Proofs.Ytmflggbpiadkjaa.P
