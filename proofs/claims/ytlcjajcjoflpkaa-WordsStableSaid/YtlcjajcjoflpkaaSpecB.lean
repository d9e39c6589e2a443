/- What the functions of the layer 'words' and of its reference compute, byte by byte: signs and quoted texts. -/
import Derived.Test.YtlcjajcjoflpkaaSpecA
import Derived.Test.YtlcjajcjoflpkaaPx13
import Derived.Test.YtlcjajcjoflpkaaPx16
namespace Go.Proofs.Ytlcjajcjoflpkaa.Sp
set_option linter.unusedSimpArgs false
set_option linter.unusedVariables false
open Go.RowKit Go.Proofs.Ytlcjajcjoflpkaa.P Go.Proofs.YtlcjajcjoflpkaaW.PrintWords Go.Proofs.YtlcjajcjoflpkaaW.PrintLast

def sign2 : List UInt8 → Bool
  | u :: v :: _ => (u == 60 && v == 61) || (u == 62 && v == 61) || (u == 33 && v == 61) || (u == 46 && v == 46)
  | _ => false
def ones : List UInt8 := [40, 41, 123, 125, 91, 93, 44, 59, 58, 61, 43, 45, 42, 47, 60, 62, 124, 38, 33, 64, 37]
def sign1 : List UInt8 → Bool
  | u :: _ => ones.contains u
  | _ => false
def signLen (l : List UInt8) : Nat := if sign2 l then 2 else if sign1 l then 1 else 0

theorem u8_eq (u : UInt8) (n : Nat) (h : n < 256) : ((u.toNat : Int) = (n : Int)) ↔ u = UInt8.ofNat n := by
  rw [← UInt8.toNat_inj]
  simp [UInt8.toNat_ofNat']
  omega
theorem signEnd_j (s : ByteArray) (hs : s.size ≤ 100000) (i : Nat) (hi : i < s.size) : Ev (fun k => words_signEnd.j0 k s (i : Int)) ((i + (if sign1 (D s i) then 1 else 0) : Nat) : Int) := by
  obtain ⟨u, hu, hb⟩ := D_cons hi
  refine Ev.step (fun k => words_signEnd.j0.eq_2 _ _ k) ?_
  have hw : wrap64 ((i : Int) + 1) = ((i + 1 : Nat) : Int) := by rw [w64 (by omega) (by omega)]; omega
  simp only [if_pos (show ((i : Int) < (s.size : Int)) by omega), if_pos (show (0 : Int) ≤ (i : Int) by omega), hb, hw, hu, sign1]
  have e : ∀ (c : Int) (a b : Option Int), (if c = 40 then a else if c = 41 then a else if c = 123 then a else if c = 125 then a else if c = 91 then a else if c = 93 then a else if c = 44 then a else if c = 59 then a else if c = 58 then a else if c = 61 then a else if c = 43 then a else if c = 45 then a else if c = 42 then a else if c = 47 then a else if c = 60 then a else if c = 62 then a else if c = 124 then a else if c = 38 then a else if c = 33 then a else if c = 64 then a else if c = 37 then a else b) = if [40, 41, 123, 125, 91, 93, 44, 59, 58, 61, 43, 45, 42, 47, 60, 62, 124, 38, 33, 64, 37].contains c then a else b := by
    intro c a b
    by_cases h : [40, 41, 123, 125, 91, 93, 44, 59, 58, 61, 43, 45, 42, 47, 60, 62, 124, 38, 33, 64, 37].contains c = true
    · rw [if_pos h]
      simp only [List.contains_eq_mem, List.mem_cons, decide_eq_true_eq, List.not_mem_nil, or_false] at h
      rcases h with rfl | rfl | rfl | rfl | rfl | rfl | rfl | rfl | rfl | rfl | rfl | rfl | rfl | rfl | rfl | rfl | rfl | rfl | rfl | rfl | rfl <;> rfl
    · rw [if_neg h]
      simp only [List.contains_eq_mem, List.mem_cons, decide_eq_true_eq, List.not_mem_nil, or_false, not_or] at h
      obtain ⟨h1, h2, h3, h4, h5, h6, h7, h8, h9, h10, h11, h12, h13, h14, h15, h16, h17, h18, h19, h20, h21⟩ := h
      rw [if_neg h1, if_neg h2, if_neg h3, if_neg h4, if_neg h5, if_neg h6, if_neg h7, if_neg h8, if_neg h9, if_neg h10, if_neg h11, if_neg h12, if_neg h13, if_neg h14, if_neg h15, if_neg h16, if_neg h17, if_neg h18, if_neg h19, if_neg h20, if_neg h21]
  simp only [e]
  have hc : ([40, 41, 123, 125, 91, 93, 44, 59, 58, 61, 43, 45, 42, 47, 60, 62, 124, 38, 33, 64, 37] : List Int).contains (u.toNat : Int) = ones.contains u := by
    have : ∀ v : UInt8, ([40, 41, 123, 125, 91, 93, 44, 59, 58, 61, 43, 45, 42, 47, 60, 62, 124, 38, 33, 64, 37] : List Int).contains (v.toNat : Int) = ones.contains v := by
      intro v
      have := (fun (n : Fin 256) => (by revert n; decide +kernel : ([40, 41, 123, 125, 91, 93, 44, 59, 58, 61, 43, 45, 42, 47, 60, 62, 124, 38, 33, 64, 37] : List Int).contains ((UInt8.ofNat n.val).toNat : Int) = ones.contains (UInt8.ofNat n.val))) ⟨v.toNat, v.toNat_lt⟩
      simpa using this
    exact this u
  rw [hc]
  cases ones.contains u <;> exact Ev.now _
theorem toL {s : ByteArray} : s.toList = s.data.toList := ByteArray.toList_eq s
theorem ext2 (s : ByteArray) (i : Nat) (n : Nat) : (s.extract ((i : Int)).toNat (((i + n : Nat) : Int)).toNat).toList = (D s i).take n := by
  rw [toL, Int.toNat_natCast, Int.toNat_natCast, extract_D]
theorem D_two {s : ByteArray} {i : Nat} (h : i + 1 < s.size) : ∃ u v, D s i = u :: v :: D s (i + 2) := by
  obtain ⟨u, hu, _⟩ := D_cons (show i < s.size by omega)
  obtain ⟨v, hv, _⟩ := D_cons h
  exact ⟨u, v, by rw [hu, hv]⟩
theorem D_short {s : ByteArray} {i : Nat} (h : ¬ i + 1 < s.size) : sign2 (D s i) = false := by
  by_cases h' : i < s.size
  · obtain ⟨u, hu, _⟩ := D_cons h'
    rw [hu, D_end (by omega)]; rfl
  · rw [D_end (by omega)]; rfl

theorem signEnd_ev (s : ByteArray) (hs : s.size ≤ 100000) (i : Nat) (hi : i < s.size) : Ev (fun k => words_signEnd.f k s (i : Int)) ((i + signLen (D s i) : Nat) : Int) := by
  have hj := signEnd_j s hs i hi
  have hw : wrap64 ((i : Int) + 2) = ((i + 2 : Nat) : Int) := by rw [w64 (by omega) (by omega)]; omega
  unfold words_signEnd.f
  by_cases h : i + 1 < s.size
  · obtain ⟨u, v, huv⟩ := D_two h
    simp only [hw, if_pos (show (((i + 2 : Nat) : Int) ≤ (s.size : Int)) by omega), if_pos (show (0 : Int) ≤ (i : Int) by omega), if_pos (show (i : Int) ≤ ((i + 2 : Nat) : Int) by omega), ext2]
    have h2 : (D s i).take 2 = [u, v] := by rw [huv]; rfl
    have e : ∀ (a b : UInt8), ([u, v] = [a, b]) = (u = a ∧ v = b) := fun a b => by simp
    simp only [h2, e, signLen]
    have hs2 : sign2 (D s i) = decide ((u = 60 ∧ v = 61) ∨ (u = 62 ∧ v = 61) ∨ (u = 33 ∧ v = 61) ∨ (u = 46 ∧ v = 46)) := by
      rw [huv]; simp only [sign2]; rw [Bool.eq_iff_iff]; simp [or_assoc]
    by_cases c1 : u = 60 ∧ v = 61
    · simp only [hs2, c1, true_or, decide_true, if_true, and_self]; exact Ev.now _
    by_cases c2 : u = 62 ∧ v = 61
    · simp only [hs2, if_neg c1, c2, true_or, or_true, decide_true, if_true, and_self]; exact Ev.now _
    by_cases c3 : u = 33 ∧ v = 61
    · simp only [hs2, if_neg c1, if_neg c2, c3, true_or, or_true, decide_true, if_true, and_self]; exact Ev.now _
    by_cases c4 : u = 46 ∧ v = 46
    · simp only [hs2, if_neg c1, if_neg c2, if_neg c3, c4, true_or, or_true, decide_true, if_true, and_self]; exact Ev.now _
    have : sign2 (D s i) = false := by rw [hs2, decide_eq_false_iff_not]; rintro (h | h | h | h) <;> contradiction
    simp only [if_neg c1, if_neg c2, if_neg c3, if_neg c4, this, Bool.false_eq_true, if_false]
    exact hj
  · simp only [hw, if_neg (show ¬ (((i + 2 : Nat) : Int) ≤ (s.size : Int)) by omega), signLen, D_short h, Bool.false_eq_true, if_false]
    exact hj

theorem in_ev (t : ByteArray) : ∀ (xs ys : List ByteArray), xs.length + ys.length ≤ 1000 → Ev (fun k => accountingref06_in.l0 k (xs ++ ys) t ((xs.length : Nat) : Int)) (ys.any fun x => x.toList == t.toList) := by
  intro xs ys
  induction ys generalizing xs with
  | nil =>
    intro hl
    refine Ev.step (fun k => accountingref06_in.l0.eq_2 _ _ _ k) ?_
    simp only [if_neg (show ¬ ((xs.length : Int) < ((xs ++ []).length : Int)) by simp)]
    exact Ev.now _
  | cons y ys ih =>
    intro hl
    have h1 : (xs.length : Int) < ((xs ++ y :: ys).length : Int) := by simp; omega
    have h2 : (0 : Int) ≤ (xs.length : Int) := by omega
    have h3 : rdOf ByteArray.empty (xs ++ y :: ys) (xs.length : Int) = y := by simp [rdOf]
    have hw : wrap64 ((xs.length : Int) + 1) = (((xs ++ [y]).length : Nat) : Int) := by simp at hl ⊢; rw [w64 (by omega) (by omega)]
    refine Ev.step (fun k => accountingref06_in.l0.eq_2 _ _ _ k) ?_
    simp only [if_pos h1, if_pos h2, h3, hw, List.any_cons]
    by_cases hy : y.toList = t.toList
    · simp only [if_pos hy, hy, beq_self_eq_true, Bool.true_or]; exact Ev.now _
    · have : (y.toList == t.toList) = false := by simpa using hy
      simp only [if_neg hy, this, Bool.false_or]
      have := ih (xs ++ [y]) (by simp at hl ⊢; omega)
      simpa using this
theorem refIn_ev (t : ByteArray) (ys : List ByteArray) (h : ys.length ≤ 1000) : Ev (fun k => accountingref06_in.f k ys t) (ys.any fun x => x.toList == t.toList) := in_ev t [] ys (by simpa using h)

theorem refSign_j (s : ByteArray) (hs : s.size ≤ 100000) (i : Nat) (hi : i < s.size) : Ev (fun k => accountingref06_sign.j0 k s (i : Int) false) (((if sign1 (D s i) then 1 else 0 : Nat)) : Int) := by
  obtain ⟨u, hu, hb⟩ := D_cons hi
  have hw : wrap64 ((i : Int) + 1) = ((i + 1 : Nat) : Int) := by rw [w64 (by omega) (by omega)]; omega
  refine Ev.step (fun k => accountingref06_sign.j0.eq_2 _ _ _ k) ?_
  simp only [hw, if_pos (show (0 : Int) ≤ (i : Int) by omega), if_pos (show (i : Int) ≤ ((i + 1 : Nat) : Int) by omega), if_pos (show ((i + 1 : Nat) : Int) ≤ (s.size : Int) by omega), Bool.false_eq_true, if_false]
  refine Ev.bind (refIn_ev _ _ ?_) ?_
  · simp only [List.length_cons, List.length_nil]; omega
  have : (List.any [(⟨#[40]⟩ : ByteArray), (⟨#[41]⟩ : ByteArray), (⟨#[123]⟩ : ByteArray), (⟨#[125]⟩ : ByteArray), (⟨#[91]⟩ : ByteArray), (⟨#[93]⟩ : ByteArray), (⟨#[44]⟩ : ByteArray), (⟨#[59]⟩ : ByteArray), (⟨#[58]⟩ : ByteArray), (⟨#[61]⟩ : ByteArray), (⟨#[43]⟩ : ByteArray), (⟨#[45]⟩ : ByteArray), (⟨#[42]⟩ : ByteArray), (⟨#[47]⟩ : ByteArray), (⟨#[60]⟩ : ByteArray), (⟨#[62]⟩ : ByteArray), (⟨#[124]⟩ : ByteArray), (⟨#[38]⟩ : ByteArray), (⟨#[33]⟩ : ByteArray), (⟨#[64]⟩ : ByteArray), (⟨#[37]⟩ : ByteArray)] fun x => x.toList == (s.extract ((i : Int)).toNat (((i + 1 : Nat) : Int)).toNat).toList) = sign1 (D s i) := by
    rw [ext2, hu]
    have : (u :: D s (i + 1)).take 1 = [u] := rfl
    rw [this]
    simp only [sign1, ones, List.any_cons, List.any_nil, List.contains_cons, List.contains_nil, toL, Bool.or_false]
    have e : ∀ a : UInt8, ([a] == [u]) = (u == a) := fun a => by rw [Bool.eq_iff_iff]; simp; exact ⟨Eq.symm, Eq.symm⟩
    simp only [e]
  rw [this]
  cases sign1 (D s i) <;> exact Ev.now _
theorem refSign_ev (s : ByteArray) (hs : s.size ≤ 100000) (i : Nat) (hi : i < s.size) : Ev (fun k => accountingref06_sign.f k s (i : Int)) ((signLen (D s i) : Nat) : Int) := by
  have hj := refSign_j s hs i hi
  have hw : wrap64 ((i : Int) + 2) = ((i + 2 : Nat) : Int) := by rw [w64 (by omega) (by omega)]; omega
  have hw1 : wrap64 ((i : Int) + 1) = ((i + 1 : Nat) : Int) := by rw [w64 (by omega) (by omega)]; omega
  unfold accountingref06_sign.f
  by_cases h : i + 1 < s.size
  · obtain ⟨u, v, huv⟩ := D_two h
    simp only [hw, hw1, if_pos (show (((i + 1 : Nat) : Int) < (s.size : Int)) by omega), if_pos (show (((i + 2 : Nat) : Int) ≤ (s.size : Int)) by omega), if_pos (show (0 : Int) ≤ (i : Int) by omega), if_pos (show (i : Int) ≤ ((i + 2 : Nat) : Int) by omega)]
    refine Ev.bind (refIn_ev _ _ ?_) ?_
    · simp only [List.length_cons, List.length_nil]; omega
    have : (List.any [(⟨#[60, 61]⟩ : ByteArray), (⟨#[62, 61]⟩ : ByteArray), (⟨#[33, 61]⟩ : ByteArray), (⟨#[46, 46]⟩ : ByteArray)] fun x => x.toList == (s.extract ((i : Int)).toNat (((i + 2 : Nat) : Int)).toNat).toList) = sign2 (D s i) := by
      rw [ext2, huv]
      have : (u :: v :: D s (i + 2)).take 2 = [u, v] := rfl
      rw [this]
      simp only [sign2, List.any_cons, List.any_nil, toL, Bool.or_false]
      have e : ∀ a b : UInt8, ([a, b] == [u, v]) = (u == a && v == b) := fun a b => by rw [Bool.eq_iff_iff]; simp; exact ⟨fun ⟨x, y⟩ => ⟨x.symm, y.symm⟩, fun ⟨x, y⟩ => ⟨x.symm, y.symm⟩⟩
      simp only [e, Bool.or_assoc]
    rw [this]
    cases hq : sign2 (D s i)
    · simp only [signLen, hq, Bool.false_eq_true, if_false]; exact hj
    · refine Ev.step (fun k => accountingref06_sign.j0.eq_2 _ _ _ k) ?_
      simp only [signLen, hq, if_true]; exact Ev.now _
  · simp only [hw1, if_neg (show ¬ (((i + 1 : Nat) : Int) < (s.size : Int)) by omega), signLen, D_short h, Bool.false_eq_true, if_false]
    exact hj

/-- What stands behind an opening quotation mark: the text, how many bytes, and what is wrong (5: a byte, 6: no end). -/
def qt : List UInt8 → List UInt8 × Nat × Nat
  | [] => ([], 0, 6)
  | [u] => if u = 34 then ([], 1, 0) else if u = 92 then ([], 0, 5) else if isPrintable u.toNat then ([u], 1, 6) else ([], 0, 5)
  | u :: v :: r => if u = 34 then ([], 1, 0) else if u = 92 then (if v = 34 ∨ v = 92 then (v :: (qt r).1, (qt r).2.1 + 2, (qt r).2.2) else ([], 0, 5))
    else if isPrintable u.toNat then (u :: (qt (v :: r)).1, (qt (v :: r)).2.1 + 1, (qt (v :: r)).2.2) else ([], 0, 5)
theorem qt_end (r : List UInt8) : qt (34 :: r) = ([], 1, 0) := by cases r <;> simp [qt]
theorem qt_plain (u : UInt8) (r : List UInt8) (h1 : ¬ u = 34) (h2 : ¬ u = 92) (h3 : isPrintable u.toNat = true) : qt (u :: r) = (u :: (qt r).1, (qt r).2.1 + 1, (qt r).2.2) := by
  cases r with
  | nil => simp [qt, h1, h2, h3]
  | cons v r => simp only [qt, if_neg h1, if_neg h2, if_pos h3]
theorem qt_bad (u : UInt8) (r : List UInt8) (h1 : ¬ u = 34) (h2 : ¬ u = 92) (h3 : isPrintable u.toNat = false) : qt (u :: r) = ([], 0, 5) := by
  cases r with
  | nil => simp [qt, h1, h2, h3]
  | cons v r => simp [qt, if_neg h1, if_neg h2, h3]
theorem qt_esc (v : UInt8) (r : List UInt8) (h : v = 34 ∨ v = 92) : qt (92 :: v :: r) = (v :: (qt r).1, (qt r).2.1 + 2, (qt r).2.2) := by
  simp only [qt, if_neg (show ¬ (92 : UInt8) = 34 by decide), if_true, if_pos h]
theorem qt_esc_no (r : List UInt8) (h : ∀ v r', r = v :: r' → ¬ (v = 34 ∨ v = 92)) : qt (92 :: r) = ([], 0, 5) := by
  cases r with
  | nil => simp [qt]
  | cons v r => simp only [qt, if_neg (show ¬ (92 : UInt8) = 34 by decide), if_true, if_neg (h v r rfl)]
theorem qt_le : ∀ (n : Nat) (l : List UInt8), l.length ≤ n → (qt l).1.length ≤ l.length ∧ (qt l).2.1 ≤ l.length ∧ ((qt l).2.2 = 0 → (qt l).1.length + 1 ≤ (qt l).2.1) := by
  intro n
  induction n with
  | zero => intro l hl; obtain rfl : l = [] := List.length_eq_zero_iff.mp (by omega); simp [qt]
  | succ n ih =>
    intro l hl
    cases l with
    | nil => simp [qt]
    | cons u r =>
      by_cases h1 : u = 34
      · subst h1; rw [qt_end]; simp
      by_cases h2 : u = 92
      · subst h2
        by_cases h : ∃ v r', r = v :: r' ∧ (v = 34 ∨ v = 92)
        · obtain ⟨v, r', rfl, hv⟩ := h
          rw [qt_esc v r' hv]
          have := ih r' (by simp at hl; omega)
          simp at this ⊢; omega
        · rw [qt_esc_no r (fun v r' e hv => h ⟨v, r', e, hv⟩)]; simp
      cases h3 : isPrintable (u.toNat : Int)
      · rw [qt_bad u r h1 h2 h3]; simp
      · rw [qt_plain u r h1 h2 h3]
        have := ih r (by simp at hl; omega)
        simp at this ⊢; omega
def toI (l : List UInt8) : List Int := l.map fun u => (u.toNat : Int)
theorem strOf_toI (l : List UInt8) : strOfNums (toI l) = ⟨l.toArray⟩ := by
  unfold strOfNums toI
  rw [List.map_map]
  have : ((fun n : Int => UInt8.ofNat n.toNat) ∘ fun u : UInt8 => (u.toNat : Int)) = id := by funext u; simp
  rw [this, List.map_id]
theorem u_eq (u : UInt8) (n : Nat) (h : n < 256) : (((u.toNat : Nat) : Int) = (n : Int)) = (u = UInt8.ofNat n) := propext (u8_eq u n h)
theorem c34 (u : UInt8) : (((u.toNat : Nat) : Int) = 34) = (u = 34) := u_eq u 34 (by omega)
theorem c92 (u : UInt8) : (((u.toNat : Nat) : Int) = 92) = (u = 92) := u_eq u 92 (by omega)
/-- The answer of the quoted text whose bytes from j on are told by q, what is before is acc. -/
def qAns (i j : Nat) (acc : List UInt8) (q : List UInt8 × Nat × Nat) : ByteArray × Int × Int × Int :=
  if q.2.2 = 0 then (⟨(acc ++ q.1).toArray⟩, ((j + q.2.1 : Nat) : Int), 0, 0) else if q.2.2 = 6 then (⟨#[]⟩, 0, (i : Int), 6) else (⟨#[]⟩, 0, ((j + q.2.1 : Nat) : Int), 5)
theorem qAns_step (i j n : Nat) (acc : List UInt8) (v : UInt8) (q : List UInt8 × Nat × Nat) : qAns i (j + n) (acc ++ [v]) q = qAns i j acc (v :: q.1, q.2.1 + n, q.2.2) := by
  unfold qAns
  simp only [List.append_assoc, List.singleton_append, show j + n + q.2.1 = j + (q.2.1 + n) by omega]
theorem toI_snoc (l : List UInt8) (v : UInt8) : toI l ++ [(v.toNat : Int)] = toI (l ++ [v]) := by simp [toI]

theorem quoted_ev (s : ByteArray) (hs : s.size ≤ 100000) (i : Nat) : ∀ (n j : Nat) (acc : List UInt8), s.size - j ≤ n → j ≤ s.size → acc.length ≤ j → Ev (fun k => words_quoted.l0 k s (i : Int) (toI acc) (j : Int) 0 0) (qAns i j acc (qt (D s j))) := by
  intro n
  induction n with
  | zero =>
    intro j acc hn hj ha
    refine Ev.step (fun k => words_quoted.l0.eq_2 _ _ _ _ _ _ k) ?_
    rw [D_end (by omega)]
    simp only [if_neg (show ¬ ((j : Int) < (s.size : Int)) by omega)]
    exact Ev.now _
  | succ n ih =>
    intro j acc hn hj ha
    by_cases h : j < s.size
    case neg =>
      refine Ev.step (fun k => words_quoted.l0.eq_2 _ _ _ _ _ _ k) ?_
      rw [D_end (by omega)]
      simp only [if_neg (show ¬ ((j : Int) < (s.size : Int)) by omega)]
      exact Ev.now _
    obtain ⟨u, hu, hb⟩ := D_cons h
    have hw : wrap64 ((j : Int) + 1) = ((j + 1 : Nat) : Int) := by rw [w64 (by omega) (by omega)]; omega
    have hw2 : wrap64 (((j + 1 : Nat) : Int) + 1) = ((j + 2 : Nat) : Int) := by rw [w64 (by omega) (by omega)]; omega
    have hw3 : wrap64 (((j + 1 : Nat) : Int) - 1) = (j : Int) := by rw [w64 (by omega) (by omega)]; omega
    have hl : (toI acc).length < 140737488355328 := by simp [toI]; omega
    refine Ev.step (fun k => words_quoted.l0.eq_2 _ _ _ _ _ _ k) ?_
    simp only [if_pos (show ((j : Int) < (s.size : Int)) by omega), if_pos (show (0 : Int) ≤ (j : Int) by omega), hb, hw, hw2, hw3, c34, c92, if_pos hl, words_printable_f, Option.bind_some, toI_snoc, strOf_toI]
    by_cases h1 : u = 34
    · subst h1
      rw [hu, qt_end]
      simp only [if_true]
      have : qAns i j acc ([], 1, 0) = (⟨acc.toArray⟩, ((j + 1 : Nat) : Int), 0, 0) := by simp [qAns]
      rw [this]; exact Ev.now _
    simp only [if_neg h1]
    by_cases h2 : u = 92
    · subst h2
      simp only [if_true]
      by_cases h3 : j + 1 < s.size
      · obtain ⟨v, hv, hbv⟩ := D_cons h3
        simp only [if_neg (show ¬ (((j + 1 : Nat) : Int) ≥ (s.size : Int)) by omega), if_pos (show (0 : Int) ≤ ((j + 1 : Nat) : Int) by omega), if_pos (show (((j + 1 : Nat) : Int) < (s.size : Int)) by omega), hbv, c34, c92, toI_snoc]
        have hi := ih (j + 2) (acc ++ [v]) (by omega) (by omega) (by simp; omega)
        rw [qAns_step i j 2 acc v] at hi
        by_cases h4 : v = 34
        · simp only [if_pos h4]
          rw [hu, hv, qt_esc v _ (.inl h4)]; exact hi
        simp only [if_neg h4]
        by_cases h5 : v = 92
        · simp only [if_pos h5]
          rw [hu, hv, qt_esc v _ (.inr h5)]; exact hi
        simp only [if_neg h5]
        rw [hu, hv, qt_esc_no _ (by rintro v' r' e; obtain ⟨rfl, _⟩ := List.cons.inj e; exact not_or.mpr ⟨h4, h5⟩)]
        exact Ev.now _
      · simp only [if_pos (show (((j + 1 : Nat) : Int) ≥ (s.size : Int)) by omega)]
        rw [hu, D_end (show s.size ≤ j + 1 by omega), qt_esc_no _ (by intro v' r' e; cases e)]
        exact Ev.now _
    simp only [if_neg h2]
    cases h3 : isPrintable (u.toNat : Int)
    · rw [hu, qt_bad u _ h1 h2 h3]
      exact Ev.now _
    · simp only [if_true]
      have hi := ih (j + 1) (acc ++ [u]) (by omega) (by omega) (by simp; omega)
      rw [qAns_step i j 1 acc u] at hi
      rw [hu, qt_plain u _ h1 h2 h3]; exact hi

/-- The reference asks of the length at the closing mark. -/
def qAnsR (i j : Nat) (acc : List UInt8) (q : List UInt8 × Nat × Nat) : ByteArray × Int × Int × Int :=
  if q.2.2 = 0 then (if (acc ++ q.1).length > 60 then (⟨#[]⟩, 0, (i : Int), 9) else (⟨(acc ++ q.1).toArray⟩, ((j + q.2.1 : Nat) : Int), 0, 0)) else if q.2.2 = 6 then (⟨#[]⟩, 0, (i : Int), 6) else (⟨#[]⟩, 0, ((j + q.2.1 : Nat) : Int), 5)
theorem qAnsR_step (i j n : Nat) (acc : List UInt8) (v : UInt8) (q : List UInt8 × Nat × Nat) : qAnsR i (j + n) (acc ++ [v]) q = qAnsR i j acc (v :: q.1, q.2.1 + n, q.2.2) := by
  unfold qAnsR
  simp only [List.append_assoc, List.singleton_append, show j + n + q.2.1 = j + (q.2.1 + n) by omega]
theorem refText_ev (s : ByteArray) (hs : s.size ≤ 100000) (i : Nat) : ∀ (n j : Nat) (acc : List UInt8), s.size - j ≤ n → j ≤ s.size → acc.length ≤ j → Ev (fun k => accountingref06_text.l0 k s (i : Int) (toI acc) (j : Int)) (qAnsR i j acc (qt (D s j))) := by
  intro n
  induction n with
  | zero =>
    intro j acc hn hj ha
    refine Ev.step (fun k => accountingref06_text.l0.eq_2 _ _ _ _ k) ?_
    rw [D_end (by omega)]
    simp only [if_neg (show ¬ ((j : Int) < (s.size : Int)) by omega)]
    exact Ev.now _
  | succ n ih =>
    intro j acc hn hj ha
    by_cases h : j < s.size
    case neg =>
      refine Ev.step (fun k => accountingref06_text.l0.eq_2 _ _ _ _ k) ?_
      rw [D_end (by omega)]
      simp only [if_neg (show ¬ ((j : Int) < (s.size : Int)) by omega)]
      exact Ev.now _
    obtain ⟨u, hu, hb⟩ := D_cons h
    have hw : wrap64 ((j : Int) + 1) = ((j + 1 : Nat) : Int) := by rw [w64 (by omega) (by omega)]; omega
    have hw2 : wrap64 (((j + 1 : Nat) : Int) + 1) = ((j + 2 : Nat) : Int) := by rw [w64 (by omega) (by omega)]; omega
    have hl : (toI acc).length < 140737488355328 := by simp [toI]; omega
    have hlen : (toI acc).length = acc.length := by simp [toI]
    refine Ev.step (fun k => accountingref06_text.l0.eq_2 _ _ _ _ k) ?_
    simp only [if_pos (show ((j : Int) < (s.size : Int)) by omega), if_pos (show (0 : Int) ≤ (j : Int) by omega), hb, hw, c34, strOf_toI, hlen]
    by_cases h1 : u = 34
    · subst h1
      rw [hu, qt_end]
      simp only [if_true]
      by_cases h6 : (acc.length : Int) > 60
      · have : qAnsR i j acc ([], 1, 0) = (⟨#[]⟩, 0, (i : Int), 9) := by simp [qAnsR]; omega
        rw [this]; simp only [if_pos h6]; exact Ev.now _
      · have : qAnsR i j acc ([], 1, 0) = (⟨acc.toArray⟩, ((j + 1 : Nat) : Int), 0, 0) := by simp [qAnsR]; omega
        rw [this]; simp only [if_neg h6]; exact Ev.now _
    simp only [if_neg h1]
    have hp : isPrintable (u.toNat : Int) = decide (32 ≤ (u.toNat : Int) ∧ (u.toNat : Int) ≤ 126) := rfl
    have j1 : Ev (fun k => accountingref06_text.j1 k s (i : Int) (toI acc) (j : Int) (u.toNat : Int) (!(isPrintable (u.toNat : Int)))) (qAnsR i j acc (qt (D s j))) := by
      refine Ev.step (fun k => accountingref06_text.j1.eq_2 _ _ _ _ _ _ k) ?_
      simp only [hw, hw2, c92, if_pos hl, toI_snoc]
      by_cases h2 : u = 92
      · subst h2
        simp only [show (!(isPrintable (((92 : UInt8).toNat : Nat) : Int))) = false from by decide, Bool.false_eq_true, if_false, if_true]
        by_cases h3 : j + 1 < s.size
        · obtain ⟨v, hv, hbv⟩ := D_cons h3
          simp only [if_neg (show ¬ (((j + 1 : Nat) : Int) ≥ (s.size : Int)) by omega), if_pos (show (0 : Int) ≤ ((j + 1 : Nat) : Int) by omega), if_pos (show (((j + 1 : Nat) : Int) < (s.size : Int)) by omega), hbv, c34, c92, toI_snoc]
          have hi := ih (j + 2) (acc ++ [v]) (by omega) (by omega) (by simp; omega)
          rw [qAnsR_step i j 2 acc v] at hi
          by_cases h4 : v = 34
          · simp only [if_pos h4]
            rw [hu, hv, qt_esc v _ (.inl h4)]; exact hi
          simp only [if_neg h4]
          by_cases h5 : v = 92
          · simp only [if_pos h5]
            rw [hu, hv, qt_esc v _ (.inr h5)]; exact hi
          simp only [if_neg h5]
          rw [hu, hv, qt_esc_no _ (by rintro v' r' e; obtain ⟨rfl, _⟩ := List.cons.inj e; exact not_or.mpr ⟨h4, h5⟩)]
          exact Ev.now _
        · simp only [if_pos (show (((j + 1 : Nat) : Int) ≥ (s.size : Int)) by omega)]
          rw [hu, D_end (show s.size ≤ j + 1 by omega), qt_esc_no _ (by intro v' r' e; cases e)]
          exact Ev.now _
      cases h3 : isPrintable (u.toNat : Int)
      · rw [hu, qt_bad u _ h1 h2 h3]
        exact Ev.now _
      · simp only [Bool.not_true, Bool.false_eq_true, if_false, if_neg h2]
        have hi := ih (j + 1) (acc ++ [u]) (by omega) (by omega) (by simp; omega)
        rw [qAnsR_step i j 1 acc u] at hi
        rw [hu, qt_plain u _ h1 h2 h3]; exact hi
    by_cases h7 : (u.toNat : Int) < 32
    · simp only [if_pos h7]
      rw [hp, decide_eq_false (by omega)] at j1; exact j1
    · simp only [if_neg h7]
      have : decide ((u.toNat : Int) > 126) = !(isPrintable (u.toNat : Int)) := by
        rw [hp, Bool.eq_iff_iff]; simp; omega
      rw [this]; exact j1
end Go.Proofs.Ytlcjajcjoflpkaa.Sp
