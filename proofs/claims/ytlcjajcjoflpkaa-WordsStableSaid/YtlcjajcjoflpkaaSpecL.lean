/- Joined words are cut into the same words; a word of a line is its own notation's word; offsets grow. -/
import Derived.Test.YtlcjajcjoflpkaaSpecK
import Derived.Test.YtlcjajcjoflpkaaSpecQP
import Derived.Test.YtlcjajcjoflpkaaSpecM
namespace Go.Proofs.Ytlcjajcjoflpkaa.Sp
open Go.RowKit Go.Proofs.Ytlcjajcjoflpkaa.P Go.Proofs.YtlcjajcjoflpkaaW.PrintWords Go.Proofs.YtlcjajcjoflpkaaW.PrintLast
set_option linter.unusedSimpArgs false
set_option linter.unusedVariables false

theorem cutL_fuel : ∀ (f : Nat) (l : List UInt8) (i : Nat), l.length < f → cutL (f + 1) l i = cutL f l i := by
  intro f
  induction f with
  | zero => intro l i h; omega
  | succ f ih =>
    intro l i h
    cases l with
    | nil => rfl
    | cons u r =>
      rw [cutL_cons (f + 1), cutL_cons f]
      by_cases h35 : u = 35
      · rw [if_pos h35, if_pos h35]
      rw [if_neg h35, if_neg h35]
      by_cases h32 : u = 32
      · rw [if_pos h32, if_pos h32]
        exact ih r (i + 1) (by simp at h; omega)
      rw [if_neg h32, if_neg h32]
      by_cases he : (wordL (u :: r)).err = 0
      · have hn := wordL_n (u :: r) he
        rw [ih _ _ (by simp at h ⊢; omega)]
      · rw [if_neg he, if_neg he]
theorem cutL_more (l : List UInt8) (i f : Nat) (h : l.length < f) : ∀ m, cutL (f + m) l i = cutL f l i := by
  intro m
  induction m with
  | zero => rfl
  | succ m ih => rw [← Nat.add_assoc, cutL_fuel _ _ _ (by omega), ih]

theorem wordL_text_len (l : List UInt8) (h : (wordL l).err = 0) : (wordL l).text.length ≤ l.length := by
  cases l with
  | nil => simp [wordL] at h
  | cons u r =>
    have hq := (qt_le r.length r (Nat.le_refl _)).1
    unfold wordL at h ⊢
    by_cases h1 : u = 34
    · simp only [if_pos h1] at h ⊢
      split <;> split <;> simp_all <;> omega
    · simp only [if_neg h1] at h ⊢
      split
      · split <;> simp <;> omega
      · split
        · split <;> simp <;> omega
        · split <;> simp <;> omega

theorem qt_print : ∀ (n : Nat) (l : List UInt8), l.length ≤ n → ∀ u ∈ (qt l).1, isPrintable (u.toNat : Int) = true := by
  intro n
  induction n with
  | zero => intro l hl; obtain rfl : l = [] := List.length_eq_zero_iff.mp (by omega); simp [qt]
  | succ n ih =>
    intro l hl
    cases l with
    | nil => simp [qt]
    | cons u r =>
      by_cases h1 : u = 34
      · subst h1; rw [qt_end]; simp
      by_cases h2 : u = 92
      · subst h2
        by_cases hv : ∃ v r', r = v :: r' ∧ (v = 34 ∨ v = 92)
        · obtain ⟨v, r', rfl, hv⟩ := hv
          rw [qt_esc v r' hv]
          intro w hw
          rcases List.mem_cons.mp hw with rfl | hw
          · rcases hv with rfl | rfl <;> decide
          · exact ih r' (by simp at hl; omega) w hw
        · rw [qt_esc_no r (fun v r' e hv' => hv ⟨v, r', e, hv'⟩)]; simp
      cases h3 : isPrintable (u.toNat : Int)
      · rw [qt_bad u r h1 h2 h3]; simp
      · rw [qt_plain u r h1 h2 h3]
        intro w hw
        rcases List.mem_cons.mp hw with rfl | hw
        · exact h3
        · exact ih r (by simp at hl; omega) w hw
theorem qt_esc_all (l : List UInt8) (h : ∀ u ∈ l, isPrintable (u.toNat : Int) = true) : qt (esc l) = (l, (esc l).length, 0) := by
  induction l with
  | nil => rfl
  | cons u r ih =>
    have hr := ih (fun w hw => h w (List.mem_cons_of_mem _ hw))
    by_cases hq : u = 34 ∨ u = 92
    · simp only [esc, if_pos hq]
      rw [qt_esc u _ hq, hr]; rfl
    · simp only [esc, if_neg hq]
      rw [qt_plain u _ (fun e => hq (.inl e)) (fun e => hq (.inr e)) (h u List.mem_cons_self), hr]; rfl
/-- The quoted text of a plain text is read as this text. -/
theorem lone_quote (x : List UInt8) (h : ∀ u ∈ x, isPrintable (u.toNat : Int) = true) (hl : x.length ≤ 60) : Lone (34 :: esc x) 3 x := by
  refine ⟨?_, fun u r e => ?_⟩
  · unfold wordL
    simp only [if_true, qt_esc_all x h, if_pos hl, List.length_cons]
  · obtain ⟨rfl, _⟩ := List.cons.inj e
    exact ⟨by decide, by decide⟩
theorem plain_all (s : ByteArray) (h : plainB s = true) : s.size ≤ 60 ∧ ∀ u ∈ D s 0, isPrintable (u.toNat : Int) = true := by
  unfold plainB allFrom at h
  simp only [Bool.and_eq_true, decide_eq_true_eq, List.all_eq_true] at h
  exact h
theorem plain_of (x : List UInt8) (h : ∀ u ∈ x, isPrintable (u.toNat : Int) = true) (hl : x.length ≤ 60) : plainB ⟨x.toArray⟩ = true := by
  unfold plainB allFrom
  simp only [Bool.and_eq_true, decide_eq_true_eq, List.all_eq_true]
  exact ⟨by simpa [ByteArray.size] using hl, by simpa using h⟩
theorem D0 (s : ByteArray) : D s 0 = s.data.toList := rfl
theorem D_mk (x : List UInt8) : D ⟨x.toArray⟩ 0 = x := by simp [D]
theorem size_mk (x : List UInt8) : (⟨x.toArray⟩ : ByteArray).size = x.length := by simp [ByteArray.size]
theorem mk_data (s : ByteArray) : (⟨s.data.toList.toArray⟩ : ByteArray) = s := by cases s; simp
theorem D_size (s : ByteArray) : (D s 0).length = s.size := by rw [D_len]; omega

theorem cutS_lone (n : ByteArray) (k : Nat) (x : List UInt8) (hn : n.size ≤ 400) (h : Lone (D n 0) k x) : cutS n = ([(⟨(k : Int), ⟨x.toArray⟩, 0⟩ : S39)], (n.size : Int), 0) := by
  unfold cutS
  rw [if_neg (by omega), cutL_last _ _ _ _ _ h]
  simp [cutAns]

/-- All texts of a cut are no longer than the line. -/
theorem cutL_texts : ∀ (f : Nat) (l : List UInt8) (i : Nat), ∀ t ∈ (cutL f l i).1, t.f1.size ≤ l.length := by
  intro f
  induction f with
  | zero => intro l i t ht; simp [cutL] at ht
  | succ f ih =>
    intro l i t ht
    cases l with
    | nil => simp [cutL] at ht
    | cons u r =>
      rw [cutL_cons] at ht
      by_cases h35 : u = 35
      · rw [if_pos h35] at ht; simp at ht
      rw [if_neg h35] at ht
      by_cases h32 : u = 32
      · rw [if_pos h32] at ht
        have := ih r (i + 1) t ht
        simp; omega
      rw [if_neg h32] at ht
      by_cases he : (wordL (u :: r)).err = 0
      · rw [if_pos he] at ht
        split at ht
        · rcases List.mem_cons.mp ht with rfl | ht
          · have := wordL_text_len (u :: r) he
            rw [size_mk]; exact this
          · have := ih _ _ t ht
            simp at this ⊢; omega
        · simp at ht
      · rw [if_neg he] at ht; simp at ht

/-- What a cut's word is. -/
def TokOK (t : S39) : Prop := ∃ (k : Nat) (x : List UInt8), t.f0 = (k : Int) ∧ t.f1 = ⟨x.toArray⟩ ∧ ((k ≠ 3 ∧ Lone x k x) ∨ (k = 3 ∧ (∀ u ∈ x, isPrintable (u.toNat : Int) = true) ∧ x.length ≤ 60))
theorem kind3 (l : List UInt8) (h : (wordL l).err = 0) (hk : (wordL l).kind = 3) : (∀ u ∈ (wordL l).text, isPrintable (u.toNat : Int) = true) ∧ (wordL l).text.length ≤ 60 := by
  cases l with
  | nil => simp [wordL] at h
  | cons u r =>
    have hp := qt_print r.length r (Nat.le_refl _)
    unfold wordL at h hk ⊢
    by_cases h1 : u = 34
    · simp only [if_pos h1] at h hk ⊢
      by_cases h2 : (qt r).2.2 = 0
      · simp only [if_pos h2] at h ⊢
        by_cases h3 : (qt r).1.length ≤ 60
        · simp only [if_pos h3]; exact ⟨hp, h3⟩
        · simp only [if_neg h3] at h; simp at h
      · simp only [if_neg h2] at h
        split at h <;> simp at h
    · simp only [if_neg h1] at hk
      split at hk
      · split at hk <;> simp at hk
      · split at hk
        · split at hk <;> simp at hk
        · split at hk <;> simp at hk
theorem cutL_toks : ∀ (f : Nat) (l : List UInt8) (i : Nat), ∀ t ∈ (cutL f l i).1, TokOK t := by
  intro f
  induction f with
  | zero => intro l i t ht; simp [cutL] at ht
  | succ f ih =>
    intro l i t ht
    cases l with
    | nil => simp [cutL] at ht
    | cons u r =>
      rw [cutL_cons] at ht
      by_cases h35 : u = 35
      · rw [if_pos h35] at ht; simp at ht
      rw [if_neg h35] at ht
      by_cases h32 : u = 32
      · rw [if_pos h32] at ht
        exact ih r (i + 1) t ht
      rw [if_neg h32] at ht
      by_cases he : (wordL (u :: r)).err = 0
      · rw [if_pos he] at ht
        split at ht
        · rcases List.mem_cons.mp ht with rfl | ht
          · refine ⟨(wordL (u :: r)).kind, (wordL (u :: r)).text, rfl, rfl, ?_⟩
            by_cases hk : (wordL (u :: r)).kind = 3
            · exact .inr ⟨hk, kind3 _ he hk⟩
            · exact .inl ⟨hk, lone_take _ he hk⟩
          · exact ih _ _ t ht
        · simp at ht
      · rw [if_neg he] at ht; simp at ht
/-- Offsets: none before i, and each greater than the one before. -/
theorem cutL_ats : ∀ (f : Nat) (l : List UInt8) (i : Nat), (∀ t ∈ (cutL f l i).1, (i : Int) ≤ t.f2) ∧ (cutL f l i).1.Pairwise fun a b => a.f2 < b.f2 := by
  intro f
  induction f with
  | zero => intro l i; simp [cutL]
  | succ f ih =>
    intro l i
    cases l with
    | nil => simp [cutL]
    | cons u r =>
      rw [cutL_cons]
      by_cases h35 : u = 35
      · rw [if_pos h35]; simp
      rw [if_neg h35]
      by_cases h32 : u = 32
      · rw [if_pos h32]
        have := ih r (i + 1)
        exact ⟨fun t ht => by have := this.1 t ht; omega, this.2⟩
      rw [if_neg h32]
      by_cases he : (wordL (u :: r)).err = 0
      · rw [if_pos he]
        have hn := wordL_n (u :: r) he
        have := ih ((u :: r).drop (wordL (u :: r)).n) (i + (wordL (u :: r)).n)
        split
        · refine ⟨fun t ht => ?_, List.pairwise_cons.mpr ⟨fun t ht => ?_, this.2⟩⟩
          · rcases List.mem_cons.mp ht with rfl | ht
            · exact Int.le_refl _
            · have := this.1 t ht; omega
          · have := this.1 t ht
            show (i : Int) < t.f2
            omega
        · simp
      · rw [if_neg he]; simp

/-- A word whose notation is read as this word: the notation stands alone. -/
theorem notS_lone (kind : Int) (s : ByteArray) (h : (notS kind s).2 = true) : ∃ k : Nat, kind = (k : Int) ∧ Lone (D (notS kind s).1 0) k (D s 0) := by
  unfold notS at h ⊢
  by_cases h3 : kind = 3
  · rw [if_pos h3] at h ⊢
    cases hp : plainB s
    · rw [hp] at h; simp at h
    · have hpl := plain_all s hp
      refine ⟨3, h3, ?_⟩
      simp only [if_true]
      have : (quoteS s).1 = ⟨(34 :: esc (D s 0)).toArray⟩ := by unfold quoteS; rw [hp]; rfl
      rw [this, D_mk]
      exact lone_quote _ hpl.2 (by rw [D_size]; exact hpl.1)
  · rw [if_neg h3] at h ⊢
    simp only [Bool.and_eq_true, decide_eq_true_eq, beq_iff_eq] at h
    obtain ⟨⟨h1, h2, hk⟩, ht⟩ := h
    simp only
    unfold cutS at h1 h2 hk ht
    by_cases h4 : s.size > 400
    · rw [if_pos h4] at h1; simp at h1
    rw [if_neg h4] at h1 h2 hk ht
    generalize hc : cutL (s.size + 1) (D s 0) 0 = c at h1 h2 hk ht
    have hc0 : c.2.2 = 0 := by
      unfold cutAns at h1
      by_cases e : c.2.2 = 0
      · exact e
      · rw [if_neg e] at h1; simp only at h1; omega
    have hA : cutAns s.size [] c = (c.1, (s.size : Int), 0) := by simp [cutAns, hc0]
    rw [hA] at h2 hk ht
    simp only at h2 hk ht
    obtain ⟨t, ht1⟩ : ∃ t, c.1 = [t] := List.length_eq_one_iff.mp h2
    rw [ht1] at hk ht
    have e0 : rd_T39 [t] 0 = t := rfl
    rw [e0] at hk ht
    have htx : t.f1.data.toList = D s 0 := by rw [toL, toL] at ht; exact ht
    have htl := cutL_texts (s.size + 1) (D s 0) 0 t (by rw [hc, ht1]; simp)
    cases hl : D s 0 with
    | nil => rw [hl] at hc; rw [← hc] at ht1; simp [cutL] at ht1
    | cons u r =>
      rw [hl] at hc htx htl
      rw [cutL_cons] at hc
      by_cases h35 : u = 35
      · rw [if_pos h35] at hc; rw [← hc] at ht1; simp at ht1
      rw [if_neg h35] at hc
      by_cases h32 : u = 32
      · rw [if_pos h32] at hc
        exfalso
        have := cutL_texts s.size r 1 t (by rw [hc, ht1]; simp)
        have e : t.f1.size = (u :: r).length := by rw [← htx]; simp
        simp at e; omega
      rw [if_neg h32] at hc
      by_cases he : (wordL (u :: r)).err = 0
      · rw [if_pos he] at hc
        split at hc
        · rw [← hc] at ht1
          simp only [List.cons.injEq] at ht1
          obtain ⟨rfl, _⟩ := ht1
          refine ⟨(wordL (u :: r)).kind, hk.symm, ?_⟩
          have hk3 : (wordL (u :: r)).kind ≠ 3 := by
            intro e; apply h3; rw [← hk]; show (((wordL (u :: r)).kind : Nat) : Int) = 3; omega
          have hx : (wordL (u :: r)).text = u :: r := by simpa using htx
          have hL := lone_take _ he hk3
          rw [hx] at hL
          exact hL
        · rw [← hc] at ht1; simp at ht1
      · rw [if_neg he] at hc; rw [← hc] at ht1; simp at ht1
/-- A word of a cut is read from its notation. -/
theorem tok_notS (t : S39) (h : TokOK t) (hs : t.f1.size ≤ 400) : (notS t.f0 t.f1).2 = true := by
  obtain ⟨k, x, h0, h1, hx⟩ := h
  rw [h0, h1]
  rw [h1, size_mk] at hs
  unfold notS
  rcases hx with ⟨hk, hL⟩ | ⟨rfl, hp, hl⟩
  · rw [if_neg (show ¬ ((k : Int) = 3) by omega)]
    have hc := cutS_lone ⟨x.toArray⟩ k x (by rw [size_mk]; exact hs) (by rw [D_mk]; exact hL)
    rw [hc]
    simp [rd_T39]
  · rw [if_pos (show (((3 : Nat) : Int)) = 3 from rfl), plain_of x hp hl]
    simp only [if_true]
    have hq : quoteS ⟨x.toArray⟩ = (⟨(34 :: esc x).toArray⟩, 0) := by unfold quoteS; rw [plain_of x hp hl, D_mk]; rfl
    rw [hq]
    have he := esc_len x
    have hc := cutS_lone ⟨(34 :: esc x).toArray⟩ 3 x (by rw [size_mk, List.length_cons]; omega) (by rw [D_mk]; exact lone_quote x hp hl)
    simp only [hc]
    simp [rd_T39]

/-- The bytes of joined words. -/
def joinB : List S39 → List UInt8
  | [] => []
  | x :: xs => 32 :: (D (notS x.f0 x.f1).1 0 ++ joinB xs)
def okAll (l : List S39) : Bool := l.all fun x => (notS x.f0 x.f1).2
theorem app_data (a b : ByteArray) : (a ++ b).data.toList = a.data.toList ++ b.data.toList := by simp
theorem joinS_rest : ∀ (l : List S39) (acc : ByteArray), joinS l false acc = if okAll l then (if (acc.data.toList ++ joinB l).length > 400 then (⟨#[]⟩, 9) else (⟨(acc.data.toList ++ joinB l).toArray⟩, 0)) else (⟨#[]⟩, 5) := by
  intro l
  induction l with
  | nil =>
    intro acc
    simp [joinS, okAll, joinB]
  | cons x xs ih =>
    intro acc
    have hk : okAll (x :: xs) = ((notS x.f0 x.f1).2 && okAll xs) := rfl
    simp only [joinS]
    by_cases hx : (notS x.f0 x.f1).2 = true
    case neg => rw [if_neg hx, if_neg (by rw [hk]; simp [hx])]
    · rw [if_pos hx, hk, hx, Bool.true_and]
      simp only [Bool.false_eq_true, if_false]
      rw [ih]
      have e : ((acc ++ (⟨#[32]⟩ : ByteArray)) ++ (notS x.f0 x.f1).1).data.toList ++ joinB xs = acc.data.toList ++ joinB (x :: xs) := by
        rw [app_data, app_data]; simp [joinB, D0]
      rw [e]
theorem joinS_all (l : List S39) : joinS l true ⟨#[]⟩ = if okAll l then (if (joinB l).tail.length > 400 then (⟨#[]⟩, 9) else (⟨(joinB l).tail.toArray⟩, 0)) else (⟨#[]⟩, 5) := by
  cases l with
  | nil => rfl
  | cons x xs =>
    have hk : okAll (x :: xs) = ((notS x.f0 x.f1).2 && okAll xs) := rfl
    simp only [joinS]
    by_cases hx : (notS x.f0 x.f1).2 = true
    case neg => rw [if_neg hx, if_neg (by rw [hk]; simp [hx])]
    · rw [if_pos hx, hk, hx, Bool.true_and]
      simp only [if_true]
      rw [joinS_rest]
      have e : ((⟨#[]⟩ : ByteArray) ++ (notS x.f0 x.f1).1).data.toList ++ joinB xs = (joinB (x :: xs)).tail := by
        rw [app_data]; simp [joinB, D0]
      rw [e]
def key (t : S39) : Int × ByteArray := (t.f0, t.f1)
theorem cut_joinB : ∀ (l : List S39), okAll l = true → ∀ (f i : Nat), (joinB l).length < f → ∃ ts, cutL f (joinB l) i = (ts, 0, 0) ∧ ts.map key = l.map key := by
  intro l
  induction l with
  | nil =>
    intro _ f i hf
    obtain ⟨f, rfl⟩ : ∃ m, f = m + 1 := ⟨f - 1, by omega⟩
    exact ⟨[], rfl, rfl⟩
  | cons x xs ih =>
    intro hok f i hf
    simp only [okAll, List.all_cons, Bool.and_eq_true] at hok
    obtain ⟨k, hk, hL⟩ := notS_lone _ _ hok.1
    obtain ⟨f, rfl⟩ : ∃ m, f = m + 1 := ⟨f - 1, by omega⟩
    simp only [joinB, List.length_cons, List.length_append] at hf
    have hpos : 0 < (D (notS x.f0 x.f1).1 0).length := by
      rcases Nat.eq_zero_or_pos (D (notS x.f0 x.f1).1 0).length with e | e
      · exact absurd (List.length_eq_zero_iff.mp e) hL.ne
      · exact e
    obtain ⟨f, rfl⟩ : ∃ m, f = m + 1 := ⟨f - 1, by omega⟩
    show ∃ ts, cutL (f + 1 + 1) (32 :: (D (notS x.f0 x.f1).1 0 ++ joinB xs)) i = (ts, 0, 0) ∧ _
    rw [cutL_space]
    have hkey : key (⟨(k : Int), ⟨(D x.f1 0).toArray⟩, ((i + 1 : Nat) : Int)⟩ : S39) = key x := by
      unfold key; rw [D0, mk_data, ← hk]
    cases xs with
    | nil =>
      simp only [joinB, List.append_nil]
      rw [cutL_last _ _ _ _ _ hL]
      exact ⟨_, rfl, by show [key _] = [key x]; rw [hkey]⟩
    | cons y ys =>
      obtain ⟨ts, h1, h2⟩ := ih hok.2 f (i + 1 + (D (notS x.f0 x.f1).1 0).length) (by omega)
      have e : joinB (y :: ys) = 32 :: (D (notS y.f0 y.f1).1 0 ++ joinB ys) := rfl
      rw [e] at h1 ⊢
      rw [cutL_word _ _ _ _ _ _ hL, h1]
      exact ⟨_, rfl, by simp only [List.map_cons, h2, hkey]⟩
theorem cut_join (l : List S39) (hok : okAll l = true) (f i : Nat) (hf : (joinB l).tail.length < f) : ∃ ts, cutL f (joinB l).tail i = (ts, 0, 0) ∧ ts.map key = l.map key := by
  cases l with
  | nil =>
    obtain ⟨f, rfl⟩ : ∃ m, f = m + 1 := ⟨f - 1, by omega⟩
    exact ⟨[], rfl, rfl⟩
  | cons x xs =>
    simp only [okAll, List.all_cons, Bool.and_eq_true] at hok
    obtain ⟨k, hk, hL⟩ := notS_lone _ _ hok.1
    obtain ⟨f, rfl⟩ : ∃ m, f = m + 1 := ⟨f - 1, by omega⟩
    simp only [joinB, List.tail_cons, List.length_append] at hf ⊢
    have hpos : 0 < (D (notS x.f0 x.f1).1 0).length := by
      rcases Nat.eq_zero_or_pos (D (notS x.f0 x.f1).1 0).length with e | e
      · exact absurd (List.length_eq_zero_iff.mp e) hL.ne
      · exact e
    have hkey : key (⟨(k : Int), ⟨(D x.f1 0).toArray⟩, (i : Int)⟩ : S39) = key x := by
      unfold key; rw [D0, mk_data, ← hk]
    cases xs with
    | nil =>
      simp only [joinB, List.append_nil]
      rw [cutL_last _ _ _ _ _ hL]
      exact ⟨_, rfl, by show [key _] = [key x]; rw [hkey]⟩
    | cons y ys =>
      obtain ⟨ts, h1, h2⟩ := cut_joinB (y :: ys) hok.2 f (i + (D (notS x.f0 x.f1).1 0).length) (by omega)
      have e : joinB (y :: ys) = 32 :: (D (notS y.f0 y.f1).1 0 ++ joinB ys) := rfl
      rw [e] at h1 ⊢
      rw [cutL_word _ _ _ _ _ _ hL, h1]
      exact ⟨_, rfl, by simp only [List.map_cons, h2, hkey]⟩
/-- The words of a joined line. -/
theorem cutS_join (l : List S39) (hok : okAll l = true) (hl : ¬ (joinB l).tail.length > 400) : ∃ ts, cutS ⟨(joinB l).tail.toArray⟩ = (ts, (((joinB l).tail.length : Nat) : Int), 0) ∧ ts.map key = l.map key := by
  obtain ⟨ts, h1, h2⟩ := cut_join l hok ((joinB l).tail.length + 1) 0 (by omega)
  refine ⟨ts, ?_, h2⟩
  unfold cutS
  rw [size_mk, if_neg hl, D_mk, h1]
  simp [cutAns]
theorem key_at (a b : List S39) (h : a.map key = b.map key) (i : Nat) (hi : i < b.length) : (rd_T39 a (i : Int)).f0 = (rd_T39 b (i : Int)).f0 ∧ (rd_T39 a (i : Int)).f1 = (rd_T39 b (i : Int)).f1 := by
  have hl : a.length = b.length := by simpa using congrArg List.length h
  have h1 : (a.map key)[i]? = (b.map key)[i]? := by rw [h]
  rw [List.getElem?_map, List.getElem?_map, List.getElem?_eq_getElem (by omega), List.getElem?_eq_getElem hi] at h1
  simp only [Option.map_some, Option.some.injEq, key, Prod.mk.injEq] at h1
  have ea : rd_T39 a (i : Int) = a[i] := by simp [rd_T39, List.getD_eq_getElem?_getD, List.getElem?_eq_getElem (show i < a.length by omega)]
  have eb : rd_T39 b (i : Int) = b[i] := by simp [rd_T39, List.getD_eq_getElem?_getD, List.getElem?_eq_getElem hi]
  rw [ea, eb]; exact h1
end Go.Proofs.Ytlcjajcjoflpkaa.Sp
