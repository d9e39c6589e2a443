/- Words and what follows them: a word is read alike whatever follows a space, and a word by itself is read as it was in its line. -/
import Derived.Test.YtlcjajcjoflpkaaSpecC
import Derived.Test.YtlcjajcjoflpkaaSpecD
namespace Go.Proofs.Ytlcjajcjoflpkaa.Sp
open Go.RowKit Go.Proofs.Ytlcjajcjoflpkaa.P Go.Proofs.YtlcjajcjoflpkaaW.PrintWords Go.Proofs.YtlcjajcjoflpkaaW.PrintLast
set_option linter.unusedSimpArgs false
set_option linter.unusedVariables false

theorem cutL_cons (f : Nat) (u : UInt8) (r : List UInt8) (i : Nat) : cutL (f + 1) (u :: r) i = if u = 35 then ([], 0, 0) else if u = 32 then cutL f r (i + 1)
    else if (wordL (u :: r)).err = 0 then
      (if (cutL f ((u :: r).drop (wordL (u :: r)).n) (i + (wordL (u :: r)).n)).2.2 = 0 then ((⟨((wordL (u :: r)).kind : Int), ⟨(wordL (u :: r)).text.toArray⟩, (i : Int)⟩ : S39) :: (cutL f ((u :: r).drop (wordL (u :: r)).n) (i + (wordL (u :: r)).n)).1, 0, 0)
       else ([], (cutL f ((u :: r).drop (wordL (u :: r)).n) (i + (wordL (u :: r)).n)).2))
    else ([], i + (wordL (u :: r)).off, (wordL (u :: r)).err) := rfl
theorem headDig_app (l x : List UInt8) : headDig (l ++ 32 :: x) = headDig l := by
  cases l with
  | nil => simp only [List.nil_append, headDig]; decide
  | cons u r => rfl
theorem lenName_app (l x : List UInt8) : lenName (l ++ 32 :: x) = lenName l := by
  induction l with
  | nil => simp only [List.nil_append, lenName]; rw [if_neg (by decide)]
  | cons u r ih => simp only [List.cons_append, lenName, ih]
theorem numTail_app (l x : List UInt8) : numTail (l ++ 32 :: x) = numTail l := by
  induction l with
  | nil =>
    simp only [List.nil_append, numTail]
    have h1 : cb 32 = false := by decide
    have h2 : isSep 32 = false := by decide
    simp [h1, h2]
  | cons u r ih => simp only [List.cons_append, numTail, ih, headDig_app]
theorem sign2_app (l x : List UInt8) : sign2 (l ++ 32 :: x) = sign2 l := by
  match l with
  | [] => cases x <;> simp [sign2]
  | [u] => simp [sign2]
  | u :: v :: r => simp [sign2]
theorem sign1_app (u : UInt8) (l x : List UInt8) : sign1 (u :: l ++ x) = sign1 (u :: l) := rfl
theorem signLen_app (u : UInt8) (l x : List UInt8) : signLen (u :: l ++ 32 :: x) = signLen (u :: l) := by
  unfold signLen
  rw [sign2_app (u :: l) x, sign1_app]
theorem qt_app : ∀ (n : Nat) (l x : List UInt8), l.length ≤ n → (qt l).2.2 = 0 → qt (l ++ x) = qt l := by
  intro n
  induction n with
  | zero => intro l x hl h; obtain rfl : l = [] := List.length_eq_zero_iff.mp (by omega); simp [qt] at h
  | succ n ih =>
    intro l x hl h
    cases l with
    | nil => simp [qt] at h
    | cons u r =>
      by_cases h1 : u = 34
      · subst h1; rw [List.cons_append, qt_end, qt_end]
      by_cases h2 : u = 92
      · subst h2
        by_cases hv : ∃ v r', r = v :: r' ∧ (v = 34 ∨ v = 92)
        · obtain ⟨v, r', rfl, hv⟩ := hv
          rw [qt_esc v r' hv] at h ⊢
          simp only [List.cons_append]
          rw [qt_esc v _ hv, ih r' x (by simp at hl; omega) h]
        · rw [qt_esc_no r (fun v r' e hv' => hv ⟨v, r', e, hv'⟩)] at h; simp at h
      cases h3 : isPrintable (u.toNat : Int)
      · rw [qt_bad u r h1 h2 h3] at h; simp at h
      · rw [qt_plain u r h1 h2 h3] at h ⊢
        rw [List.cons_append, qt_plain u _ h1 h2 h3, ih r x (by simp at hl; omega) h]
theorem take_app {α : Type} (l x : List α) (n : Nat) (h : n ≤ l.length) : (l ++ x).take n = l.take n := List.take_append_of_le_length h
/-- A word that is read is read alike if a space follows the line. -/
theorem wordL_app (l x : List UInt8) (h : (wordL l).err = 0) : wordL (l ++ 32 :: x) = wordL l := by
  cases l with
  | nil => simp [wordL] at h
  | cons u r =>
    have hL := lenName_app (u :: r) x
    have hN := numTail_app r x
    have hH := headDig_app r x
    have hS := signLen_app u r x
    have hq := qt_app r.length r (32 :: x) (Nat.le_refl _)
    have hn := wordL_n (u :: r) h
    have tk : ∀ n, n ≤ (u :: r).length → (u :: (r ++ 32 :: x)).take n = (u :: r).take n := fun n hn => take_app (u :: r) (32 :: x) n hn
    simp only [List.cons_append] at hL hS ⊢
    unfold wordL at h hn ⊢
    by_cases h1 : u = 34
    · simp only [if_pos h1] at h hn ⊢
      have h2 : (qt r).2.2 = 0 := by
        by_cases h2 : (qt r).2.2 = 0
        · exact h2
        · simp only [if_neg h2] at h; split at h <;> simp at h
      rw [hq h2]
    · simp only [if_neg h1, hL, hN, hH, hS] at h hn ⊢
      have l1 := lenName_le (u :: r)
      have l2 := numTail_le r
      have l3 := (signLen_le (u :: r)).2
      rw [tk _ l1, tk _ (by simp; omega), tk _ l3]

/-- A word by itself. -/
theorem take_cons {α : Type} (u : α) (r : List α) (n : Nat) : (u :: r).take (n + 1) = u :: r.take n := rfl
theorem headDig_take (r : List UInt8) (n : Nat) (h : 1 ≤ n) : headDig (r.take n) = headDig r := by
  obtain ⟨m, rfl⟩ : ∃ m, n = m + 1 := ⟨n - 1, by omega⟩
  cases r <;> rfl
theorem lenName_take (l : List UInt8) : lenName (l.take (lenName l)) = lenName l := by
  induction l with
  | nil => rfl
  | cons u r ih =>
    by_cases h : cb u = true
    · simp only [lenName, if_pos h, take_cons, ih]
    · simp only [lenName, if_neg h, List.take_zero]
theorem numTail_pos (r : List UInt8) (h : headDig r = true) : 1 ≤ numTail r := by
  cases r with
  | nil => simp [headDig] at h
  | cons u r =>
    have : cb u = true := by simp [headDig, dg] at h; simp [cb, h]
    simp [numTail, this]
theorem numTail_take (l : List UInt8) : numTail (l.take (numTail l)) = numTail l := by
  induction l with
  | nil => rfl
  | cons u r ih =>
    by_cases h : (cb u || (isSep u && headDig r)) = true
    · simp only [numTail, if_pos h, take_cons, ih]
      have : (cb u || (isSep u && headDig (r.take (numTail r)))) = true := by
        cases hc : cb u
        · rw [hc] at h
          simp at h
          rw [headDig_take r _ (numTail_pos r h.2)]
          simp [h]
        · simp
      rw [if_pos this]
    · simp only [numTail, if_neg h, List.take_zero]
theorem signLen_take (u : UInt8) (r : List UInt8) : signLen ((u :: r).take (signLen (u :: r))) = signLen (u :: r) ∨ signLen (u :: r) = 0 := by
  by_cases h : sign2 (u :: r) = true
  · left
    have e : signLen (u :: r) = 2 := by simp [signLen, h]
    rw [e]
    match r, h with
    | v :: r', h =>
      have h' : sign2 [u, v] = true := by simpa [sign2] using h
      show signLen [u, v] = 2
      simp [signLen, h']
    | [], h => simp [sign2] at h
  · by_cases h1 : sign1 (u :: r) = true
    · left
      have e : signLen (u :: r) = 1 := by simp [signLen, h, h1]
      rw [e]
      show signLen [u] = 1
      have h2 : sign2 [u] = false := rfl
      have h3 : sign1 [u] = true := h1
      simp [signLen, h2, h3]
    · right; simp [signLen, h, h1]

/-- The notation n is that of the one word of kind k and text x. -/
def Lone (n : List UInt8) (k : Nat) (x : List UInt8) : Prop := wordL n = ⟨k, x, n.length, 0, 0⟩ ∧ ∀ u r, n = u :: r → u ≠ 32 ∧ u ≠ 35
theorem Lone.ne {n : List UInt8} {k : Nat} {x : List UInt8} (h : Lone n k x) : n ≠ [] := by
  rintro rfl
  have := h.1
  simp [wordL] at this
theorem kinds (l : List UInt8) (h : (wordL l).err = 0) : (wordL l).kind = 3 ∨ ((wordL l).kind ≠ 3 ∧ (wordL l).text = l.take (wordL l).n) := by
  cases l with
  | nil => simp [wordL] at h
  | cons u r =>
    unfold wordL at h ⊢
    by_cases h1 : u = 34
    · simp only [if_pos h1] at h ⊢
      left
      split <;> split <;> rfl
    · simp only [if_neg h1] at h ⊢
      right
      by_cases h2 : lt u = true
      · simp only [if_pos h2] at h ⊢
        split <;> simp_all
      · simp only [if_neg h2] at h ⊢
        by_cases h3 : (dg u || (u == 45 && headDig r)) = true
        · simp only [if_pos h3] at h ⊢
          split <;> simp_all
        · simp only [if_neg h3] at h ⊢
          by_cases h4 : signLen (u :: r) = 0
          · simp only [if_pos h4] at h; simp at h
          · simp only [if_neg h4]; simp
theorem sign_not (u : UInt8) (r : List UInt8) (h : signLen (u :: r) ≠ 0) : u ≠ 32 ∧ u ≠ 35 := by
  constructor
  · rintro rfl
    have h1 : sign1 (32 :: r) = false := by show ones.contains 32 = false; decide
    have h2 : sign2 (32 :: r) = false := by cases r <;> simp [sign2]
    simp [signLen, h1, h2] at h
  · rintro rfl
    have h1 : sign1 (35 :: r) = false := by show ones.contains 35 = false; decide
    have h2 : sign2 (35 :: r) = false := by cases r <;> simp [sign2]
    simp [signLen, h1, h2] at h
/-- A name, a number or a sign is its own notation. -/
theorem lone_take (l : List UInt8) (h : (wordL l).err = 0) (hk : (wordL l).kind ≠ 3) : Lone (wordL l).text (wordL l).kind (wordL l).text := by
  have hn := wordL_n l h
  cases l with
  | nil => simp [wordL] at h
  | cons u r =>
    by_cases h1 : u = 34
    · exfalso; apply hk
      unfold wordL; simp only [if_pos h1]; split <;> split <;> rfl
    by_cases h2 : lt u = true
    · have hW : wordL (u :: r) = ⟨1, (u :: r).take (lenName (u :: r)), lenName (u :: r), 0, 0⟩ := by
        unfold wordL at h ⊢; simp only [if_neg h1, if_pos h2] at h ⊢; split <;> simp_all
      have hc : cb u = true := by have : lt u = true := h2; simp [cb, lt] at this ⊢; simp [this]
      have h12 : lenName (u :: r) ≤ 12 := by
        unfold wordL at h; simp only [if_neg h1, if_pos h2] at h
        by_cases g : lenName (u :: r) ≤ 12
        · exact g
        · simp only [if_neg g] at h; simp at h
      rw [hW]
      obtain ⟨m, hm⟩ : ∃ m, lenName (u :: r) = m + 1 := ⟨lenName (u :: r) - 1, by simp [lenName, hc]⟩
      have ht := lenName_take (u :: r)
      have hl := lenName_le (u :: r)
      have hln : ((u :: r).take (lenName (u :: r))).length = lenName (u :: r) := by rw [List.length_take]; omega
      rw [hm, take_cons] at ht hln ⊢
      refine ⟨?_, fun v r' e => ?_⟩
      · unfold wordL
        simp only [if_neg h1, if_pos h2, ht, if_pos (show m + 1 ≤ 12 by omega)]
        rw [hln, List.take_of_length_le (by omega)]
      · obtain ⟨rfl, _⟩ := List.cons.inj e
        constructor <;> (rintro rfl; revert h2; decide)
    by_cases h3 : (dg u || (u == 45 && headDig r)) = true
    · have hW : wordL (u :: r) = ⟨2, (u :: r).take (numTail r + 1), numTail r + 1, 0, 0⟩ := by
        unfold wordL at h ⊢; simp only [if_neg h1, if_neg h2, if_pos h3] at h ⊢; split <;> simp_all
      have h60 : numTail r + 1 ≤ 60 := by
        unfold wordL at h; simp only [if_neg h1, if_neg h2, if_pos h3] at h
        by_cases g : numTail r + 1 ≤ 60
        · exact g
        · simp only [if_neg g] at h; simp at h
      rw [hW]
      have ht := numTail_take r
      have hl := numTail_le r
      simp only [take_cons]
      have h3' : (dg u || (u == 45 && headDig (r.take (numTail r)))) = true := by
        cases hd : dg u
        · rw [hd] at h3
          simp at h3
          rw [headDig_take r _ (numTail_pos r h3.2)]
          simp [h3]
        · simp
      refine ⟨?_, fun v r' e => ?_⟩
      · have hln : (u :: r.take (numTail r)).length = numTail r + 1 := by rw [List.length_cons, List.length_take]; omega
        have e : (u :: r.take (numTail r)).take (numTail r + 1) = u :: r.take (numTail r) := List.take_of_length_le (by omega)
        unfold wordL
        simp only [if_neg h1, if_neg h2, if_pos h3', ht, if_pos h60, e, hln]
      · obtain ⟨rfl, _⟩ := List.cons.inj e
        constructor <;> (rintro rfl; revert h3; simp only [show dg 32 = false by decide, show dg 35 = false by decide, show ((32 : UInt8) == 45) = false by decide, show ((35 : UInt8) == 45) = false by decide, Bool.false_and, Bool.or_false]; decide)
    · have h4 : signLen (u :: r) ≠ 0 := by
        intro g
        unfold wordL at h; simp only [if_neg h1, if_neg h2, if_neg h3, if_pos g] at h; simp at h
      have hW : wordL (u :: r) = ⟨4, (u :: r).take (signLen (u :: r)), signLen (u :: r), 0, 0⟩ := by
        unfold wordL; simp only [if_neg h1, if_neg h2, if_neg h3, if_neg h4]
      rw [hW]
      have ht := (signLen_take u r).resolve_right h4
      have hl := (signLen_le (u :: r)).2
      have hln : ((u :: r).take (signLen (u :: r))).length = signLen (u :: r) := by rw [List.length_take]; omega
      obtain ⟨m, hm⟩ : ∃ m, signLen (u :: r) = m + 1 := ⟨signLen (u :: r) - 1, by omega⟩
      have h3' : ¬ (dg u || (u == 45 && headDig (r.take m))) = true := by
        intro g; apply h3
        cases hd : dg u
        · rw [hd] at g
          simp at g
          cases m with
          | zero => simp [headDig] at g
          | succ m => rw [headDig_take r _ (by omega)] at g; simp [g]
        · simp
      rw [hm, take_cons] at ht hln ⊢
      refine ⟨?_, fun v r' e => ?_⟩
      · unfold wordL
        simp only [if_neg h1, if_neg h2, if_neg h3', ht, if_neg (show ¬ (m + 1 = 0) by omega)]
        rw [hln, List.take_of_length_le (by omega)]
      · obtain ⟨rfl, _⟩ := List.cons.inj e
        exact sign_not u r h4

/-- How a line that begins with a word's notation is cut. -/
theorem cutL_word (f : Nat) (n x : List UInt8) (k : Nat) (c : List UInt8) (i : Nat) (h : Lone n k c) : cutL (f + 1) (n ++ 32 :: x) i = (if (cutL f (32 :: x) (i + n.length)).2.2 = 0 then ((⟨(k : Int), ⟨c.toArray⟩, (i : Int)⟩ : S39) :: (cutL f (32 :: x) (i + n.length)).1, 0, 0) else ([], (cutL f (32 :: x) (i + n.length)).2)) := by
  have hw := wordL_app n x (by rw [h.1])
  rw [h.1] at hw
  cases n with
  | nil => exact absurd rfl h.ne
  | cons u r =>
    obtain ⟨h32, h35⟩ := h.2 u r rfl
    rw [List.cons_append] at hw ⊢
    rw [cutL_cons, if_neg h35, if_neg h32, hw]
    have hd : (u :: (r ++ 32 :: x)).drop (u :: r).length = 32 :: x := by
      rw [← List.cons_append, List.drop_left]
    simp only [if_true, hd]
theorem cutL_last (f : Nat) (n : List UInt8) (k : Nat) (c : List UInt8) (i : Nat) (h : Lone n k c) : cutL (f + 1) n i = ([(⟨(k : Int), ⟨c.toArray⟩, (i : Int)⟩ : S39)], 0, 0) := by
  have hw := h.1
  cases n with
  | nil => exact absurd rfl h.ne
  | cons u r =>
    obtain ⟨h32, h35⟩ := h.2 u r rfl
    rw [cutL_cons, if_neg h35, if_neg h32, hw]
    simp only [if_true, List.drop_length]
    cases f <;> simp [cutL]
theorem cutL_space (f : Nat) (x : List UInt8) (i : Nat) : cutL (f + 1) (32 :: x) i = cutL f x (i + 1) := by
  rw [cutL_cons, if_neg (by decide), if_pos rfl]

/-- A comment behind a line. -/
theorem cutL_comment (x : List UInt8) : ∀ (f : Nat) (l : List UInt8) (i : Nat), l.length < f → (cutL f l i).2.2 = 0 → cutL (f + 2) (l ++ 32 :: 35 :: x) i = cutL f l i := by
  intro f
  induction f with
  | zero => intro l i h; omega
  | succ f ih =>
    intro l i hl h
    cases l with
    | nil =>
      rw [List.nil_append, cutL_space]
      simp [cutL]
    | cons u r =>
      rw [List.cons_append]
      by_cases h35 : u = 35
      · simp [cutL, h35]
      by_cases h32 : u = 32
      · subst h32
        have e : cutL (f + 1) (32 :: r) i = cutL f r (i + 1) := cutL_space f r i
        rw [e] at h ⊢
        rw [cutL_space]
        exact ih r (i + 1) (by simp at hl; omega) h
      have he : (wordL (u :: r)).err = 0 := by
        by_cases he : (wordL (u :: r)).err = 0
        · exact he
        · rw [cutL_cons, if_neg h35, if_neg h32, if_neg he] at h; exact absurd h he
      have hn := wordL_n (u :: r) he
      have hw := wordL_app (u :: r) (35 :: x) he
      rw [List.cons_append] at hw
      have hd : (u :: (r ++ 32 :: 35 :: x)).drop (wordL (u :: r)).n = (u :: r).drop (wordL (u :: r)).n ++ 32 :: 35 :: x := by
        rw [← List.cons_append, List.drop_append_of_le_length hn.2]
      have hc : (cutL f ((u :: r).drop (wordL (u :: r)).n) (i + (wordL (u :: r)).n)).2.2 = 0 := by
        rw [cutL_cons, if_neg h35, if_neg h32, if_pos he] at h
        by_cases hc : (cutL f ((u :: r).drop (wordL (u :: r)).n) (i + (wordL (u :: r)).n)).2.2 = 0
        · exact hc
        · rw [if_neg hc] at h; exact absurd h hc
      have := ih _ (i + (wordL (u :: r)).n) (by simp at hl ⊢; omega) hc
      rw [show f + 1 + 2 = (f + 2) + 1 by omega]
      rw [cutL_cons, cutL_cons, if_neg h35, if_neg h32, if_neg h35, if_neg h32, hw, if_pos he, hd, this, if_pos he]
end Go.Proofs.Ytlcjajcjoflpkaa.Sp
