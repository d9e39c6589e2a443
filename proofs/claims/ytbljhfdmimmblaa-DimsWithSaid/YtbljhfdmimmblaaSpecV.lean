/- Texts of mine, joined: SpecA, SpecL, SpecX, SpecM, SpecH. -/
import Derived.Test.YtbljhfdmimmblaaPx2
import Derived.Test.YtbljhfdmimmblaaPx6
import Derived.Test.YtbljhfdmimmblaaPx7
import Derived.Test.YtbljhfdmimmblaaPx24
import Derived.Laws.Strings
import Derived.Test.YtbljhfdmimmblaaPx15
import Derived.Test.YtbljhfdmimmblaaHandCut
import Derived.Test.YtbljhfdmimmblaaPx27
import Derived.Test.YtbljhfdmimmblaaPx9
import Derived.Test.YtbljhfdmimmblaaPx26
import Derived.Test.YtbljhfdmimmblaaPx14
import Derived.Test.YtbljhfdmimmblaaPx28
import Derived.Test.YtbljhfdmimmblaaPx5
import Derived.Test.YtbljhfdmimmblaaPx21

import Derived.Test.YtbljhfdmimmblaaLess
import Derived.Test.YtbljhfdmimmblaaSayDimsWith
/- Light lists, equal lists, the value of a tag, lists that match a pattern: the layer 'dims' and its reference. -/
namespace Go.Proofs.Ytbljhfdmimmblaa.Sp
set_option linter.unusedSimpArgs false
set_option linter.unusedVariables false
open Go.RowKit Go.Proofs.Ytbljhfdmimmblaa.P Go.Proofs.YtbljhfdmimmblaaW.PrintWords Go.Proofs.YtbljhfdmimmblaaW.PrintLast

theorem w64 {x : Int} (h0 : 0 ≤ x) (h1 : x < 9223372036854775000) : wrap64 x = x := by unfold wrap64; omega

theorem rd39 {l : List S39} {i : Nat} (h : i < l.length) : rd_T39 l (i : Int) = l[i] := by
  simp [rd_T39, h]
theorem rdDrop {l : List S39} {i : Nat} (h : i < l.length) : l.drop i = rd_T39 l (i : Int) :: l.drop (i + 1) := by
  rw [rd39 h, List.drop_eq_getElem_cons h]

def small (x : S39) : Bool := decide (x.f0.size ≤ 100) && decide (x.f1.size ≤ 100)
theorem light_l0 (l : List S39) (hl : l.length ≤ 20) : ∀ (n i : Nat), l.length - i = n → i ≤ l.length → Ev (fun k => accountinglaw09_light.l0 k l (i : Int)) ((l.drop i).all small) := by
  intro n
  induction n with
  | zero =>
    intro i hn hi
    refine Ev.step (fun k => accountinglaw09_light.l0.eq_2 _ _ k) ?_
    simp only [if_neg (show ¬ ((i : Int) < (l.length : Int)) by omega)]
    rw [List.drop_of_length_le (by omega)]
    exact Ev.now _
  | succ n ih =>
    intro i hn hi
    refine Ev.step (fun k => accountinglaw09_light.l0.eq_2 _ _ k) ?_
    have hw : wrap64 ((i : Int) + 1) = ((i + 1 : Nat) : Int) := by rw [w64 (by omega) (by omega)]; omega
    simp only [if_pos (show ((i : Int) < (l.length : Int)) by omega), if_pos (show (0 : Int) ≤ (i : Int) by omega), hw]
    rw [rdDrop (show i < l.length by omega), List.all_cons]
    by_cases h0 : (((rd_T39 l (i : Int)).f0).size : Int) > 100
    · simp only [if_pos h0]
      have : small (rd_T39 l (i : Int)) = false := by simp [small]; omega
      rw [this]; exact Ev.now _
    simp only [if_neg h0]
    by_cases h1 : (((rd_T39 l (i : Int)).f1).size : Int) > 100
    · simp only [if_pos h1]
      have : small (rd_T39 l (i : Int)) = false := by simp [small]; omega
      rw [this]; exact Ev.now _
    simp only [if_neg h1]
    have : small (rd_T39 l (i : Int)) = true := by simp [small]; omega
    rw [this, Bool.true_and]
    exact ih (i + 1) (by omega) (by omega)
def lightB (l : List S39) : Bool := decide (l.length ≤ 20) && l.all small
theorem light_ev (l : List S39) : Ev (fun k => accountinglaw09_light.f k l) (lightB l) := by
  unfold accountinglaw09_light.f lightB
  by_cases h : (l.length : Int) > 20
  · simp only [if_pos h]
    have : decide (l.length ≤ 20) = false := decide_eq_false (by omega)
    rw [this]; exact Ev.now _
  · simp only [if_neg h]
    have : decide (l.length ≤ 20) = true := decide_eq_true (by omega)
    rw [this, Bool.true_and]
    exact light_l0 l (by omega) _ 0 rfl (by omega)

theorem same_l0 (l : List S39) (hl : l.length ≤ 1000000) : ∀ (n i : Nat), l.length - i = n → i ≤ l.length → Ev (fun k => accountingref09_Same.l0 k l l (i : Int)) true := by
  intro n
  induction n with
  | zero =>
    intro i hn hi
    refine Ev.step (fun k => accountingref09_Same.l0.eq_2 _ _ _ k) ?_
    simp only [if_neg (show ¬ ((i : Int) < (l.length : Int)) by omega)]
    exact Ev.now _
  | succ n ih =>
    intro i hn hi
    refine Ev.step (fun k => accountingref09_Same.l0.eq_2 _ _ _ k) ?_
    have hw : wrap64 ((i : Int) + 1) = ((i + 1 : Nat) : Int) := by rw [w64 (by omega) (by omega)]; omega
    simp only [if_pos (show ((i : Int) < (l.length : Int)) by omega), if_pos (show (0 : Int) ≤ (i : Int) by omega), hw, beq_self_eq_true, Bool.not_true, Bool.or_false, Bool.false_eq_true, if_false]
    exact ih (i + 1) (by omega) (by omega)
theorem same_ev (l : List S39) (hl : l.length ≤ 1000000) : Ev (fun k => accountingref09_Same.f k l l) true := by
  unfold accountingref09_Same.f
  simp only [if_true]
  exact same_l0 l hl _ 0 rfl (by omega)

/-- The value of the first tag of this name. -/
def getL (n : ByteArray) : List S39 → ByteArray × Bool
  | [] => (⟨#[]⟩, false)
  | x :: r => if x.f0.toList = n.toList then (x.f1, true) else getL n r
theorem refGet_l0 (n : ByteArray) (l : List S39) (hl : l.length ≤ 1000000) : ∀ (m i : Nat), l.length - i = m → i ≤ l.length → Ev (fun k => accountingref09_Get.l0 k l n (i : Int)) (getL n (l.drop i)) := by
  intro m
  induction m with
  | zero =>
    intro i hn hi
    refine Ev.step (fun k => accountingref09_Get.l0.eq_2 _ _ _ k) ?_
    simp only [if_neg (show ¬ ((i : Int) < (l.length : Int)) by omega)]
    rw [List.drop_of_length_le (by omega)]
    exact Ev.now _
  | succ m ih =>
    intro i hn hi
    refine Ev.step (fun k => accountingref09_Get.l0.eq_2 _ _ _ k) ?_
    have hw : wrap64 ((i : Int) + 1) = ((i + 1 : Nat) : Int) := by rw [w64 (by omega) (by omega)]; omega
    simp only [if_pos (show ((i : Int) < (l.length : Int)) by omega), if_pos (show (0 : Int) ≤ (i : Int) by omega), hw]
    rw [rdDrop (show i < l.length by omega)]
    unfold getL
    by_cases h : (rd_T39 l (i : Int)).f0.toList = n.toList
    · simp only [if_pos h]; exact Ev.now _
    · simp only [if_neg h]; exact ih (i + 1) (by omega) (by omega)
theorem refGet_ev (n : ByteArray) (l : List S39) (hl : l.length ≤ 1000000) : Ev (fun k => accountingref09_Get.f k l n) (getL n l) :=
  refGet_l0 n l hl _ 0 rfl (by omega)
theorem Get_eq (n : ByteArray) (l : List S39) : ∀ k (x : Int), dims_Get.l0 k n l (l.length : Int) x = accountingref09_Get.l0 k l n x := by
  intro k
  induction k with
  | zero => intro x; rfl
  | succ k ih =>
    intro x
    rw [dims_Get.l0, accountingref09_Get.l0]
    simp only [ih]
    by_cases h : x < (l.length : Int)
    · simp only [if_pos h]
    · simp only [if_neg h]
theorem Get_ev (n : ByteArray) (l : List S39) (hl : l.length ≤ 1000000) : Ev (fun k => dims_Get.f k l n) (getL n l) :=
  Ev.congr (fun k => Get_eq n l k 0) (refGet_ev n l hl)

def matchL (l : List S39) : List S39 → Bool
  | [] => true
  | x :: r => if (getL x.f0 l).2 = true then (if x.f1.toList = ([42] : List UInt8) then matchL l r else (if (getL x.f0 l).1.toList = x.f1.toList then matchL l r else false)) else false
theorem refMatch_l0 (p l : List S39) (hp : p.length ≤ 1000000) (hl : l.length ≤ 1000000) : ∀ (m i : Nat), p.length - i = m → i ≤ p.length → Ev (fun k => accountingref09_Match.l0 k p l (i : Int)) (matchL l (p.drop i)) := by
  intro m
  induction m with
  | zero =>
    intro i hn hi
    refine Ev.step (fun k => accountingref09_Match.l0.eq_2 _ _ _ k) ?_
    simp only [if_neg (show ¬ ((i : Int) < (p.length : Int)) by omega)]
    rw [List.drop_of_length_le (by omega)]
    exact Ev.now _
  | succ m ih =>
    intro i hn hi
    refine Ev.step (fun k => accountingref09_Match.l0.eq_2 _ _ _ k) ?_
    have hw : wrap64 ((i : Int) + 1) = ((i + 1 : Nat) : Int) := by rw [w64 (by omega) (by omega)]; omega
    simp only [if_pos (show ((i : Int) < (p.length : Int)) by omega), if_pos (show (0 : Int) ≤ (i : Int) by omega), hw]
    rw [rdDrop (show i < p.length by omega)]
    refine Ev.bind (refGet_ev _ l hl) ?_
    unfold matchL
    by_cases h0 : (getL (rd_T39 p (i : Int)).f0 l).2 = true
    · simp only [if_pos h0]
      by_cases h1 : (rd_T39 p (i : Int)).f1.toList = ([42] : List UInt8)
      · simp only [if_pos h1]; exact ih (i + 1) (by omega) (by omega)
      · simp only [if_neg h1]
        by_cases h2 : (getL (rd_T39 p (i : Int)).f0 l).1.toList = (rd_T39 p (i : Int)).f1.toList
        · simp only [if_pos h2]; exact ih (i + 1) (by omega) (by omega)
        · simp only [if_neg h2]; exact Ev.now _
    · simp only [if_neg h0]; exact Ev.now _
theorem refMatch_ev (p l : List S39) (hp : p.length ≤ 1000000) (hl : l.length ≤ 1000000) : Ev (fun k => accountingref09_Match.f k p l) (matchL l p) :=
  refMatch_l0 p l hp hl _ 0 rfl (by omega)
theorem Match_eq (p l : List S39) : ∀ k (x : Int), dims_Match.l0 k l p (p.length : Int) x = accountingref09_Match.l0 k p l x := by
  intro k
  induction k with
  | zero => intro x; rfl
  | succ k ih =>
    intro x
    rw [dims_Match.l0, accountingref09_Match.l0]
    simp only [ih, dims_Get.f, Get_eq, accountingref09_Get.f]
    by_cases h : x < (p.length : Int)
    · simp only [if_pos h, eq_comm (a := (rd_T39 p x).f1.toList) (b := ByteArray.toList _)]
    · simp only [if_neg h]
theorem Match_ev (p l : List S39) (hp : p.length ≤ 1000000) (hl : l.length ≤ 1000000) : Ev (fun k => dims_Match.f k p l) (matchL l p) :=
  Ev.congr (fun k => Match_eq p l k 0) (refMatch_ev p l hp hl)
end Go.Proofs.Ytbljhfdmimmblaa.Sp

/- The examples of the chapter. -/
namespace Go.Proofs.Ytbljhfdmimmblaa.Sp
open Go.RowKit Go.Proofs.Ytbljhfdmimmblaa.P Go.Proofs.YtbljhfdmimmblaaW.PrintWords Go.Proofs.YtbljhfdmimmblaaW.PrintLast
theorem lives_ev : Ev (fun k => accountinglaw09_lives.f k) true := Ev.of accountinglaw09_lives.mono accountinglaw09_lives.true_at
theorem lives_tail : Ev (fun k => (accountinglaw09_lives.f k).bind fun t => some t) true := Ev.bind lives_ev (Ev.now _)

end Go.Proofs.Ytbljhfdmimmblaa.Sp

/- Texts of mine, joined: SpecB, SpecC, SpecD. -/
/- The two sides of a separator: strings.Cut at one byte, and the reference's part. -/
namespace Go.Proofs.Ytbljhfdmimmblaa.Sp
set_option linter.unusedSimpArgs false
set_option linter.unusedVariables false
open Go.RowKit Go.Proofs.Ytbljhfdmimmblaa.P Go.Proofs.YtbljhfdmimmblaaW.PrintWords Go.Proofs.YtbljhfdmimmblaaW.PrintLast

/-- Where the byte c first stands in l; the length, if nowhere. -/
def idx (c : UInt8) : List UInt8 → Nat
  | [] => 0
  | b :: r => if b = c then 0 else idx c r + 1
theorem idx_le (c : UInt8) (l : List UInt8) : idx c l ≤ l.length := by
  induction l with
  | nil => simp [idx]
  | cons b r ih => unfold idx; split <;> simp <;> omega
theorem indexByte_idx (c : UInt8) (l : List UInt8) : Lib.indexByte l c = if idx c l < l.length then (idx c l : Int) else -1 := by
  induction l with
  | nil => simp [Lib.indexByte, idx]
  | cons b r ih =>
    unfold Lib.indexByte idx
    by_cases h : b = c
    · simp [h]
    · simp only [beq_iff_eq, h, if_false, ih, List.length_cons, Bool.false_eq_true]
      by_cases h2 : idx c r < r.length
      · simp [h2]
        try omega
      · simp [h2]
theorem idx_app (c : UInt8) (x y : List UInt8) (h : c ∉ x) : idx c (x ++ c :: y) = x.length := by
  induction x with
  | nil => simp [idx]
  | cons b r ih =>
    simp only [List.mem_cons, not_or] at h
    simp only [List.cons_append, idx, if_neg (Ne.symm h.1), ih h.2, List.length_cons]
theorem idx_none (c : UInt8) (x : List UInt8) (h : c ∉ x) : idx c x = x.length := by
  induction x with
  | nil => simp [idx]
  | cons b r ih =>
    simp only [List.mem_cons, not_or] at h
    simp only [idx, if_neg (Ne.symm h.1), ih h.2, List.length_cons]
theorem idx_split (c : UInt8) (l : List UInt8) (h : idx c l < l.length) : l = l.take (idx c l) ++ c :: l.drop (idx c l + 1) := by
  induction l with
  | nil => simp at h
  | cons b r ih =>
    unfold idx at h ⊢
    by_cases hb : b = c
    · simp [hb]
    · simp only [if_neg hb, List.length_cons] at h ⊢
      have := ih (by omega)
      simp only [List.take_succ_cons, List.cons_append, List.drop_succ_cons]
      rw [← this]

def L (s : ByteArray) : List UInt8 := s.data.toList
theorem L_len (s : ByteArray) : (L s).length = s.size := by simp [L]
theorem L_inj {a b : ByteArray} (h : L a = L b) : a = b := by
  unfold L at h
  exact ByteArray.ext (Array.toList_inj.mp h)
theorem L_app (a b : ByteArray) : L (a ++ b) = L a ++ L b := by simp [L]
theorem L_ext (s : ByteArray) (i j : Nat) : L (s.extract i j) = ((L s).take j).drop i := by
  unfold L
  rw [ByteArray.data_extract, Array.toList_extract]
  simp [List.extract_eq_take_drop, List.drop_take]
theorem bt_L (s : ByteArray) (i : Nat) (h : i < s.size) : bt s (i : Int) = ((((L s)[i]'(by rw [L_len]; exact h)).toNat : Nat) : Int) := by
  unfold bt; rw [dif_pos (by simpa using h)]; rfl

def cutB (c : UInt8) (s : ByteArray) : ByteArray × ByteArray × Bool :=
  if idx c (L s) < s.size then (s.extract 0 (idx c (L s)), s.extract (idx c (L s) + 1) s.size, true) else (s, ⟨#[]⟩, false)
theorem Cut_f (c : UInt8) (sep s : ByteArray) (h1 : sep.size = 1) (hc : (bt sep 0).toNat.toUInt8 = c) (hs : s.size ≤ 1000000) : strings_Cut.f s sep = some (cutB c s) := by
  unfold strings_Cut.f cutB
  rw [if_pos ⟨h1, hs⟩, hc]
  rw [show s.data.toList = L s from rfl, indexByte_idx, L_len]
  by_cases h : idx c (L s) < s.size
  · simp only [if_pos h]
    rw [if_neg (by omega), if_pos (by omega)]
    rfl
  · simp only [if_neg h]
    rfl
theorem Cut_comma (s : ByteArray) (hs : s.size ≤ 1000000) : strings_Cut.f s (⟨#[44]⟩ : ByteArray) = some (cutB 44 s) := Cut_f 44 _ s rfl (by decide) hs
theorem Cut_equals (s : ByteArray) (hs : s.size ≤ 1000000) : strings_Cut.f s (⟨#[61]⟩ : ByteArray) = some (cutB 61 s) := Cut_f 61 _ s rfl (by decide) hs

theorem drop_idx (c : UInt8) (l : List UInt8) (i : Nat) (h : i < l.length) (hi : i ≤ idx c l) : (l[i] = c → idx c l = i) ∧ (l[i] ≠ c → i + 1 ≤ idx c l) := by
  induction l generalizing i with
  | nil => simp at h
  | cons b r ih =>
    unfold idx at hi ⊢
    cases i with
    | zero =>
      simp only [List.getElem_cons_zero]
      by_cases hb : b = c <;> simp [hb]
    | succ i =>
      simp only [List.getElem_cons_succ]
      by_cases hb : b = c
      · simp [hb] at hi
      · simp only [if_neg hb] at hi ⊢
        have := ih i (by simpa using h) (by omega)
        exact ⟨fun e => by rw [this.1 e], fun e => by have := this.2 e; omega⟩
theorem part_l0 (c : UInt8) (s : ByteArray) (hs : s.size ≤ 1000000) : ∀ (n i : Nat), s.size - i = n → i ≤ s.size → i ≤ idx c (L s) → Ev (fun k => accountingref09_part.l0 k s (c.toNat : Int) (i : Int)) (cutB c s) := by
  intro n
  induction n with
  | zero =>
    intro i hn hi hx
    refine Ev.step (fun k => accountingref09_part.l0.eq_2 _ _ _ k) ?_
    simp only [if_neg (show ¬ ((i : Int) < (s.size : Int)) by omega), cutB, if_neg (show ¬ (idx c (L s) < s.size) by omega)]
    exact Ev.now _
  | succ n ih =>
    intro i hn hi hx
    refine Ev.step (fun k => accountingref09_part.l0.eq_2 _ _ _ k) ?_
    have hw : wrap64 ((i : Int) + 1) = ((i + 1 : Nat) : Int) := by rw [w64 (by omega) (by omega)]; omega
    have hl : i < (L s).length := by rw [L_len]; omega
    have hd := drop_idx c (L s) i hl hx
    simp only [if_pos (show ((i : Int) < (s.size : Int)) by omega), if_pos (show (0 : Int) ≤ (i : Int) by omega), hw, bt_L s i (by omega)]
    by_cases h : (L s)[i] = c
    · have e := hd.1 h
      simp only [h, if_true, if_pos (show (i : Int) ≤ (s.size : Int) by omega), if_pos (show (0 : Int) ≤ ((i + 1 : Nat) : Int) by omega), if_pos (show ((i + 1 : Nat) : Int) ≤ (s.size : Int) by omega), cutB, e, if_pos (show i < s.size by omega)]
      exact Ev.now _
    · have h' : ¬ ((((L s)[i].toNat : Nat) : Int) = (c.toNat : Int)) := fun e => h (UInt8.toNat_inj.mp (by omega))
      simp only [if_neg h']
      exact ih (i + 1) (by omega) (by omega) (hd.2 h)
theorem part_ev (c : UInt8) (x : Int) (hx : x = (c.toNat : Int)) (s : ByteArray) (hs : s.size ≤ 1000000) : Ev (fun k => accountingref09_part.f k s x) (cutB c s) := by
  subst hx
  exact part_l0 c s hs _ 0 rfl (by omega) (by omega)
theorem cutB_size (c : UInt8) (s : ByteArray) : (cutB c s).1.size ≤ s.size ∧ (cutB c s).2.1.size ≤ s.size ∧ ((cutB c s).2.2 = true → (cutB c s).2.1.size < s.size) := by
  unfold cutB
  split
  · simp; omega
  · exact ⟨Nat.le_refl _, Nat.zero_le _, fun e => by simp at e⟩
theorem cutB_found {c : UInt8} {s : ByteArray} (h : (cutB c s).2.2 = true) : L s = L (cutB c s).1 ++ c :: L (cutB c s).2.1 := by
  unfold cutB at h ⊢
  split at h
  · rename_i hi
    rw [if_pos hi, L_ext, L_ext]
    have := idx_split c (L s) (by rw [L_len]; exact hi)
    simp only [List.drop_zero]
    rw [← L_len s, List.take_length]
    exact this
  · simp at h
theorem cutB_lost {c : UInt8} {s : ByteArray} (h : (cutB c s).2.2 = false) : (cutB c s).1 = s ∧ (cutB c s).2.1 = ⟨#[]⟩ := by
  unfold cutB at h ⊢
  split at h
  · simp at h
  · rename_i hi
    rw [if_neg hi]; exact ⟨rfl, rfl⟩
theorem cutB_app (c : UInt8) (s : ByteArray) (x y : ByteArray) (hx : c ∉ L x) (h : L s = L x ++ c :: L y) : cutB c s = (x, y, true) := by
  have hi : idx c (L s) = x.size := by rw [h, idx_app c _ _ hx, L_len]
  have hn : s.size = x.size + 1 + y.size := by rw [← L_len, h]; simp [L_len]; omega
  unfold cutB
  rw [hi, if_pos (by omega)]
  refine Prod.ext (L_inj ?_) (Prod.ext (L_inj ?_) rfl)
  · show L (s.extract 0 x.size) = L x
    rw [L_ext, h, ← L_len x]
    simp
  · show L (s.extract (x.size + 1) s.size) = L y
    rw [L_ext, ← L_len s, List.take_length, h, ← L_len x, ← List.singleton_append, ← List.append_assoc, List.drop_append_of_le_length (by simp)]
    simp
theorem cutB_none (c : UInt8) (s : ByteArray) (h : c ∉ L s) : cutB c s = (s, ⟨#[]⟩, false) := by
  unfold cutB
  rw [idx_none c _ h, L_len, if_neg (by omega)]
end Go.Proofs.Ytbljhfdmimmblaa.Sp

/- Codes, right lists and their notation: the layer 'dims' and its reference. -/
namespace Go.Proofs.Ytbljhfdmimmblaa.Sp
set_option linter.unusedSimpArgs false
set_option linter.unusedVariables false
open Go.RowKit Go.Proofs.Ytbljhfdmimmblaa.P Go.Proofs.YtbljhfdmimmblaaW.PrintWords Go.Proofs.YtbljhfdmimmblaaW.PrintLast

def codeB (s : ByteArray) : Bool := decide (0 < s.size) && (decide (s.size ≤ 12) && allFrom isCodeByte s 0)
theorem words_Code_f (s : ByteArray) : words_Code.f s = some (codeB s) := rfl
theorem ref_letter_f (c : Int) : accountingref06_letter.f c = some (isLetter c) := by
  unfold accountingref06_letter.f isLetter
  repeat' split
  all_goals (congr 1; rw [Bool.eq_iff_iff]; simp; omega)
theorem ref_digit_f (c : Int) : accountingref06_digit.f c = some (isDigit c) := by
  unfold accountingref06_digit.f isDigit
  repeat' split
  all_goals (congr 1; rw [Bool.eq_iff_iff]; simp; omega)
theorem refCode_l0 (s : ByteArray) (hs : s.size ≤ 100000) : ∀ (n i : Nat), s.size - i = n → i ≤ s.size → Ev (fun k => accountingref06_Code.l0 k s (i : Int)) (allFrom isCodeByte s i && (decide (0 < s.size) && decide (s.size ≤ 12))) := by
  intro n
  induction n with
  | zero =>
    intro i hn hi
    refine Ev.step (fun k => accountingref06_Code.l0.eq_2 _ _ k) ?_
    obtain rfl : i = s.size := by omega
    simp only [if_neg (show ¬ ((s.size : Int) < (s.size : Int)) by omega), allFrom_end, Bool.true_and]
    by_cases h : 0 < s.size
    · simp only [if_pos (show (s.size : Int) ≥ 1 by omega), h, decide_true, Bool.true_and]
      have : decide ((s.size : Int) ≤ 12) = decide (s.size ≤ 12) := by rw [Bool.eq_iff_iff]; simp; omega
      rw [this]; exact Ev.now _
    · simp only [if_neg (show ¬ (s.size : Int) ≥ 1 by omega), h, decide_false, Bool.false_and]; exact Ev.now _
  | succ n ih =>
    intro i hn hi
    refine Ev.step (fun k => accountingref06_Code.l0.eq_2 _ _ k) ?_
    have hw : wrap64 ((i : Int) + 1) = ((i + 1 : Nat) : Int) := by rw [w64 (by omega) (by omega)]; omega
    have hst := allFrom_step isCodeByte s i (by omega)
    have hor := isCodeByte_or (bt s (i : Int))
    simp only [if_pos (show ((i : Int) < (s.size : Int)) by omega), if_pos (show (0 : Int) ≤ (i : Int) by omega), hw, ref_letter_f, ref_digit_f, Option.bind_some]
    rw [hst, hor]
    have hi' := ih (i + 1) (by omega) (by omega)
    cases h1 : isLetter (bt s (i : Int)) <;> cases h2 : isDigit (bt s (i : Int)) <;> simp <;> first | exact Ev.now _ | simpa using hi'
theorem refCode_ev (s : ByteArray) (hs : s.size ≤ 100000) : Ev (fun k => accountingref06_Code.f k s) (codeB s) := by
  have := refCode_l0 s hs _ 0 rfl (by omega)
  have e : (allFrom isCodeByte s 0 && (decide (0 < s.size) && decide (s.size ≤ 12))) = codeB s := by
    unfold codeB; rw [Bool.and_comm, Bool.and_assoc]
  rw [e] at this
  exact this

def namedB (x : S39) : Bool := codeB x.f0 && codeB x.f1
theorem codes_f (x : S39) : dims_codes.f x.f0 x.f1 = some (namedB x) := by
  unfold dims_codes.f namedB
  simp only [words_Code_f, Option.bind_some]
  cases codeB x.f0 <;> simp
theorem named_ev (x : S39) (h0 : x.f0.size ≤ 100000) (h1 : x.f1.size ≤ 100000) : Ev (fun k => accountingref09_named.f k x.f0 x.f1) (namedB x) := by
  unfold accountingref09_named.f namedB
  refine Ev.bind (refCode_ev _ h0) ?_
  cases codeB x.f0
  · exact Ev.now _
  · simp only [if_true, Bool.true_and]
    exact Ev.bind (refCode_ev _ h1) (Ev.now _)

/-- Every tag is named, and the names rise. -/
def chk : Option S39 → List S39 → Bool
  | _, [] => true
  | p, x :: r => namedB x && ((match p with | none => true | some q => Op.bytesLess q.f0.toList x.f0.toList) && chk (some x) r)
def prev (l : List S39) (i : Nat) : Option S39 := if i = 0 then none else some (rd_T39 l ((i - 1 : Nat) : Int))
theorem prev_succ (l : List S39) (i : Nat) : prev l (i + 1) = some (rd_T39 l (i : Int)) := by simp [prev]
def rightB (l : List S39) : Bool := decide (l.length ≤ 6) && chk none l

theorem Right_l0 (l : List S39) (hl : l.length ≤ 1000000) : ∀ (n i : Nat), l.length - i = n → i ≤ l.length → Ev (fun k => dims_Right.l0 k l l (l.length : Int) (i : Int)) (chk (prev l i) (l.drop i)) := by
  intro n
  induction n with
  | zero =>
    intro i hn hi
    refine Ev.step (fun k => dims_Right.l0.eq_2 _ _ _ _ k) ?_
    simp only [if_neg (show ¬ ((i : Int) < (l.length : Int)) by omega)]
    rw [List.drop_of_length_le (by omega)]
    exact Ev.now _
  | succ n ih =>
    intro i hn hi
    refine Ev.step (fun k => dims_Right.l0.eq_2 _ _ _ _ k) ?_
    have hw : wrap64 ((i : Int) + 1) = ((i + 1 : Nat) : Int) := by rw [w64 (by omega) (by omega)]; omega
    have hi' := ih (i + 1) (by omega) (by omega)
    rw [prev_succ] at hi'
    simp only [if_pos (show ((i : Int) < (l.length : Int)) by omega), if_pos (show (0 : Int) ≤ (i : Int) by omega), hw, codes_f, Option.bind_some]
    rw [rdDrop (show i < l.length by omega)]
    unfold chk
    cases hn : namedB (rd_T39 l (i : Int))
    · exact Ev.now _
    simp only [if_true, Bool.true_and]
    by_cases h0 : i = 0
    · subst h0
      simp only [if_neg (show ¬ (((0 : Nat) : Int) > 0) by omega), prev, if_true, Bool.true_and]
      exact hi'
    · have hm : wrap64 ((i : Int) - 1) = ((i - 1 : Nat) : Int) := by rw [w64 (by omega) (by omega)]; omega
      simp only [if_pos (show ((i : Int) > 0) by omega), hm, if_pos (show (0 : Int) ≤ ((i - 1 : Nat) : Int) by omega), if_pos (show ((i - 1 : Nat) : Int) < (l.length : Int) by omega), prev, if_neg h0]
      cases hb : Op.bytesLess ((rd_T39 l ((i - 1 : Nat) : Int)).f0).toList ((rd_T39 l (i : Int)).f0).toList
      · exact Ev.now _
      · simp only [if_true, Bool.true_and]
        exact hi'
theorem Right_ev (l : List S39) : Ev (fun k => dims_Right.f k l) (rightB l) := by
  unfold dims_Right.f rightB
  by_cases h : (l.length : Int) > 6
  · simp only [if_pos h]
    have : decide (l.length ≤ 6) = false := decide_eq_false (by omega)
    rw [this]; exact Ev.now _
  · simp only [if_neg h]
    have : decide (l.length ≤ 6) = true := decide_eq_true (by omega)
    rw [this, Bool.true_and]
    exact Right_l0 l (by omega) _ 0 rfl (by omega)

def shortL (l : List S39) : Prop := ∀ (i : Nat), i < l.length → (rd_T39 l (i : Int)).f0.size ≤ 100000 ∧ (rd_T39 l (i : Int)).f1.size ≤ 100000
theorem refRight_l0 (l : List S39) (hl : l.length ≤ 1000000) (hz : shortL l) : ∀ (n i : Nat), l.length - i = n → i ≤ l.length → Ev (fun k => accountingref09_Right.l0 k l (i : Int)) (chk (prev l i) (l.drop i) && decide (l.length ≤ 6)) := by
  intro n
  induction n with
  | zero =>
    intro i hn hi
    refine Ev.step (fun k => accountingref09_Right.l0.eq_2 _ _ k) ?_
    simp only [if_neg (show ¬ ((i : Int) < (l.length : Int)) by omega)]
    rw [List.drop_of_length_le (by omega)]
    have : decide ((l.length : Int) ≤ 6) = decide (l.length ≤ 6) := by rw [Bool.eq_iff_iff]; simp; omega
    rw [this]
    unfold chk
    exact Ev.now _
  | succ n ih =>
    intro i hn hi
    refine Ev.step (fun k => accountingref09_Right.l0.eq_2 _ _ k) ?_
    have hw : wrap64 ((i : Int) + 1) = ((i + 1 : Nat) : Int) := by rw [w64 (by omega) (by omega)]; omega
    have hi' := ih (i + 1) (by omega) (by omega)
    rw [prev_succ] at hi'
    have hzi := hz i (by omega)
    simp only [if_pos (show ((i : Int) < (l.length : Int)) by omega), if_pos (show (0 : Int) ≤ (i : Int) by omega), hw]
    refine Ev.bind (named_ev _ hzi.1 hzi.2) ?_
    rw [rdDrop (show i < l.length by omega)]
    unfold chk
    cases hn : namedB (rd_T39 l (i : Int))
    · exact Ev.now _
    simp only [if_true, Bool.true_and]
    by_cases h0 : i = 0
    · subst h0
      simp only [if_neg (show ¬ (((0 : Nat) : Int) > 0) by omega), prev, if_true, Bool.true_and]
      exact hi'
    · have hm : wrap64 ((i : Int) - 1) = ((i - 1 : Nat) : Int) := by rw [w64 (by omega) (by omega)]; omega
      simp only [if_pos (show ((i : Int) > 0) by omega), hm, if_pos (show (0 : Int) ≤ ((i - 1 : Nat) : Int) by omega), if_pos (show ((i - 1 : Nat) : Int) < (l.length : Int) by omega), prev, if_neg h0]
      cases hb : Op.bytesLess ((rd_T39 l ((i - 1 : Nat) : Int)).f0).toList ((rd_T39 l (i : Int)).f0).toList
      · exact Ev.now _
      · simp only [if_true, Bool.true_and]
        exact hi'
theorem refRight_ev (l : List S39) (hl : l.length ≤ 1000000) (hz : shortL l) : Ev (fun k => accountingref09_Right.f k l) (rightB l) := by
  have := refRight_l0 l hl hz _ 0 rfl (by omega)
  rw [Bool.and_comm] at this
  exact this

/-- The notation of a list after some text. -/
def addT (acc : ByteArray) (first : Bool) : List S39 → ByteArray
  | [] => acc
  | x :: r => addT ((if first then acc else acc ++ (⟨#[44]⟩ : ByteArray)) ++ ((x.f0 ++ (⟨#[61]⟩ : ByteArray)) ++ x.f1)) false r

theorem chk_named {p : Option S39} {l : List S39} (h : chk p l = true) : ∀ x ∈ l, namedB x = true := by
  induction l generalizing p with
  | nil => intro x hx; simp at hx
  | cons y r ih =>
    simp only [chk, Bool.and_eq_true] at h
    intro x hx
    rcases List.mem_cons.mp hx with rfl | hx
    · exact h.1
    · exact ih h.2.2 x hx
theorem named_size {x : S39} (h : namedB x = true) : x.f0.size ≤ 12 ∧ x.f1.size ≤ 12 := by
  simp only [namedB, codeB, Bool.and_eq_true, decide_eq_true_eq] at h
  omega
theorem size_app (a b : ByteArray) : (a ++ b).size = a.size + b.size := by rw [ByteArray.size_append]
theorem Text_l0 (l : List S39) (hl : l.length ≤ 6) (hn : ∀ x ∈ l, namedB x = true) : ∀ (n i : Nat) (acc : ByteArray), l.length - i = n → i ≤ l.length → acc.size ≤ 30 * i → Ev (fun k => dims_Text.l0 k acc l (l.length : Int) (i : Int)) (addT acc (decide (i = 0)) (l.drop i), 0) := by
  intro n
  induction n with
  | zero =>
    intro i acc hn hi ha
    refine Ev.step (fun k => dims_Text.l0.eq_2 _ _ _ _ k) ?_
    simp only [if_neg (show ¬ ((i : Int) < (l.length : Int)) by omega)]
    rw [List.drop_of_length_le (by omega)]
    exact Ev.now _
  | succ n ih =>
    intro i acc hm hi ha
    refine Ev.step (fun k => dims_Text.l0.eq_2 _ _ _ _ k) ?_
    have hw : wrap64 ((i : Int) + 1) = ((i + 1 : Nat) : Int) := by rw [w64 (by omega) (by omega)]; omega
    have hz := named_size (hn (rd_T39 l (i : Int)) (by rw [rd39 (show i < l.length by omega)]; exact List.getElem_mem _))
    have e44 : (⟨#[44]⟩ : ByteArray).size = 1 := rfl
    have e61 : (⟨#[61]⟩ : ByteArray).size = 1 := rfl
    simp only [if_pos (show ((i : Int) < (l.length : Int)) by omega), if_pos (show (0 : Int) ≤ (i : Int) by omega), hw, size_app, e44, e61]
    rw [rdDrop (show i < l.length by omega)]
    unfold addT
    have a1 : (rd_T39 l (i : Int)).f0.size + 1 ≤ 9223372036854775807 := by omega
    have a2 : (rd_T39 l (i : Int)).f0.size + 1 + (rd_T39 l (i : Int)).f1.size ≤ 9223372036854775807 := by omega
    have a3 : acc.size + ((rd_T39 l (i : Int)).f0.size + 1 + (rd_T39 l (i : Int)).f1.size) ≤ 9223372036854775807 := by omega
    have a4 : acc.size + 1 ≤ 9223372036854775807 := by omega
    have a5 : acc.size + 1 + ((rd_T39 l (i : Int)).f0.size + 1 + (rd_T39 l (i : Int)).f1.size) ≤ 9223372036854775807 := by omega
    by_cases h0 : i = 0
    · subst h0
      have := ih 1 (acc ++ ((rd_T39 l ((0 : Nat) : Int)).f0 ++ ⟨#[61]⟩ ++ (rd_T39 l ((0 : Nat) : Int)).f1)) (by omega) (by omega) (by simp only [size_app, e44, e61]; omega)
      simp only [if_neg (show ¬ (((0 : Nat) : Int) > 0) by omega), decide_true, if_true]
      simp only [if_pos a1, if_pos a2, if_pos a3]
      exact this
    · have := ih (i + 1) ((acc ++ ⟨#[44]⟩) ++ ((rd_T39 l (i : Int)).f0 ++ ⟨#[61]⟩ ++ (rd_T39 l (i : Int)).f1)) (by omega) (by omega) (by simp only [size_app, e44, e61]; omega)
      simp only [if_pos (show ((i : Int) > 0) by omega), decide_eq_true_eq, h0, decide_false, Bool.false_eq_true, if_false]
      simp only [if_pos a1, if_pos a2, if_pos a4, if_pos a5]
      simpa using this
def textL (l : List S39) : ByteArray × Int := if rightB l then (addT ⟨#[]⟩ true l, 0) else (⟨#[]⟩, 14)
theorem right_named {l : List S39} (h : rightB l = true) : l.length ≤ 6 ∧ ∀ x ∈ l, namedB x = true := by
  simp only [rightB, Bool.and_eq_true, decide_eq_true_eq] at h
  exact ⟨h.1, chk_named h.2⟩
theorem Text_ev (l : List S39) : Ev (fun k => dims_Text.f k l) (textL l) := by
  unfold dims_Text.f textL
  refine Ev.bind (Right_ev l) ?_
  cases h : rightB l
  · exact Ev.now _
  · simp only [if_true]
    have := right_named h
    exact Text_l0 l this.1 this.2 _ 0 _ rfl (by omega) (Nat.le_refl 0)
theorem refText_l0 (l : List S39) (hl : l.length ≤ 6) (hn : ∀ x ∈ l, namedB x = true) : ∀ (n i : Nat) (acc : ByteArray), l.length - i = n → i ≤ l.length → acc.size ≤ 30 * i → Ev (fun k => accountingref09_Text.l0 k l acc (i : Int)) (addT acc (decide (i = 0)) (l.drop i), 0) := by
  intro n
  induction n with
  | zero =>
    intro i acc hn hi ha
    refine Ev.step (fun k => accountingref09_Text.l0.eq_2 _ _ _ k) ?_
    simp only [if_neg (show ¬ ((i : Int) < (l.length : Int)) by omega)]
    rw [List.drop_of_length_le (by omega)]
    exact Ev.now _
  | succ n ih =>
    intro i acc hm hi ha
    refine Ev.step (fun k => accountingref09_Text.l0.eq_2 _ _ _ k) ?_
    have hw : wrap64 ((i : Int) + 1) = ((i + 1 : Nat) : Int) := by rw [w64 (by omega) (by omega)]; omega
    have hz := named_size (hn (rd_T39 l (i : Int)) (by rw [rd39 (show i < l.length by omega)]; exact List.getElem_mem _))
    have e44 : (⟨#[44]⟩ : ByteArray).size = 1 := rfl
    have e61 : (⟨#[61]⟩ : ByteArray).size = 1 := rfl
    simp only [if_pos (show ((i : Int) < (l.length : Int)) by omega), if_pos (show (0 : Int) ≤ (i : Int) by omega), hw, size_app, e44, e61]
    rw [rdDrop (show i < l.length by omega)]
    unfold addT
    have a1 : (rd_T39 l (i : Int)).f0.size + 1 ≤ 9223372036854775807 := by omega
    have a2 : (rd_T39 l (i : Int)).f0.size + 1 + (rd_T39 l (i : Int)).f1.size ≤ 9223372036854775807 := by omega
    have a3 : acc.size + ((rd_T39 l (i : Int)).f0.size + 1 + (rd_T39 l (i : Int)).f1.size) ≤ 9223372036854775807 := by omega
    have a4 : acc.size + 1 ≤ 9223372036854775807 := by omega
    have a5 : acc.size + 1 + ((rd_T39 l (i : Int)).f0.size + 1 + (rd_T39 l (i : Int)).f1.size) ≤ 9223372036854775807 := by omega
    by_cases h0 : i = 0
    · subst h0
      have := ih 1 (acc ++ ((rd_T39 l ((0 : Nat) : Int)).f0 ++ ⟨#[61]⟩ ++ (rd_T39 l ((0 : Nat) : Int)).f1)) (by omega) (by omega) (by simp only [size_app, e44, e61]; omega)
      simp only [if_neg (show ¬ (((0 : Nat) : Int) > 0) by omega), decide_true, if_true]
      simp only [if_pos a1, if_pos a2, if_pos a3]
      exact this
    · have := ih (i + 1) ((acc ++ ⟨#[44]⟩) ++ ((rd_T39 l (i : Int)).f0 ++ ⟨#[61]⟩ ++ (rd_T39 l (i : Int)).f1)) (by omega) (by omega) (by simp only [size_app, e44, e61]; omega)
      simp only [if_pos (show ((i : Int) > 0) by omega), decide_eq_true_eq, h0, decide_false, Bool.false_eq_true, if_false]
      simp only [if_pos a1, if_pos a2, if_pos a4, if_pos a5]
      simpa using this
theorem refText_ev (l : List S39) (hl : l.length ≤ 1000000) (hz : shortL l) : Ev (fun k => accountingref09_Text.f k l) (textL l) := by
  unfold accountingref09_Text.f textL
  refine Ev.bind (refRight_ev l hl hz) ?_
  cases h : rightB l
  · exact Ev.now _
  · simp only [if_true]
    have := right_named h
    exact refText_l0 l this.1 this.2 _ 0 _ rfl (by omega) (Nat.le_refl 0)
end Go.Proofs.Ytbljhfdmimmblaa.Sp

/- What a notation denotes: the layer 'dims' and its reference; and that notations and lists correspond. -/
namespace Go.Proofs.Ytbljhfdmimmblaa.Sp
set_option linter.unusedSimpArgs false
set_option linter.unusedVariables false
open Go.RowKit Go.Proofs.Ytbljhfdmimmblaa.P Go.Proofs.YtbljhfdmimmblaaW.PrintWords Go.Proofs.YtbljhfdmimmblaaW.PrintLast

def fin (acc : List S39) : List S39 × Int := if rightB acc = true then (acc, 0) else ([], 5)
def tagOf (s : ByteArray) : S39 := ⟨(cutB 61 (cutB 44 s).1).1, (cutB 61 (cutB 44 s).1).2.1⟩
def parseL : Nat → ByteArray → List S39 → List S39 × Int
  | 0, _, _ => ([], 5)
  | n + 1, s, acc => if (cutB 61 (cutB 44 s).1).2.2 = true then (if acc.length > 6 then ([], 5) else (if (cutB 44 s).2.2 = true then parseL n (cutB 44 s).2.1 (acc ++ [tagOf s]) else fin (acc ++ [tagOf s]))) else ([], 5)
theorem parse_false (s : ByteArray) (acc : List S39) : Ev (fun k => dims_Parse.l0 k s acc false) (fin acc) := by
  refine Ev.step (fun k => dims_Parse.l0.eq_2 _ _ _ k) ?_
  simp only [Bool.false_eq_true, if_false]
  refine Ev.bind (Right_ev acc) ?_
  unfold fin
  cases rightB acc
  · exact Ev.now _
  · exact Ev.now _
theorem parse_true : ∀ (n : Nat) (s : ByteArray) (acc : List S39), s.size < n → s.size ≤ 1000 → Ev (fun k => dims_Parse.l0 k s acc true) (parseL n s acc) := by
  intro n
  induction n with
  | zero => intro s acc h; omega
  | succ n ih =>
    intro s acc h hs
    refine Ev.step (fun k => dims_Parse.l0.eq_2 _ _ _ k) ?_
    have c1 := cutB_size 44 s
    have c2 := cutB_size 61 (cutB 44 s).1
    simp only [if_true, Cut_comma s (by omega), Option.bind_some, Cut_equals (cutB 44 s).1 (by omega)]
    unfold parseL
    cases hf : (cutB 61 (cutB 44 s).1).2.2
    · exact Ev.now _
    simp only [if_true]
    by_cases h6 : (acc.length : Int) > 6
    · simp only [if_pos h6, if_pos (show acc.length > 6 by omega)]; exact Ev.now _
    simp only [if_neg h6, if_neg (show ¬ acc.length > 6 by omega), if_pos (show acc.length < 4398046511104 by omega)]
    cases hg : (cutB 44 s).2.2
    · exact parse_false _ _
    · have := c1.2.2 hg
      exact ih _ _ (by omega) (by omega)
def parseB (s : ByteArray) : List S39 × Int := if L s = [] then ([], 0) else parseL (s.size + 1) s []
theorem toL (s : ByteArray) : s.toList = L s := by unfold L; exact ByteArray.toList_eq s
theorem fin_nil : fin [] = ([], 0) := rfl
theorem Parse_ev (s : ByteArray) (hs : s.size ≤ 1000) : Ev (fun k => dims_Parse.f k s) (parseB s) := by
  unfold dims_Parse.f parseB
  rw [toL]
  by_cases h : L s = []
  · have : (L s != []) = false := by simp [h]
    rw [this, if_pos h]
    exact parse_false _ _
  · have : (L s != []) = true := by simp [h]
    rw [this, if_neg h]
    exact parse_true _ s [] (by omega) hs
def smallL (l : List S39) : Prop := ∀ x ∈ l, x.f0.size ≤ 1000 ∧ x.f1.size ≤ 1000
theorem small_short {l : List S39} (h : smallL l) : shortL l := by
  intro i hi
  rw [rd39 hi]
  have := h _ (List.getElem_mem hi)
  omega
theorem refParse_false (s : ByteArray) (acc : List S39) (hl : acc.length ≤ 1000000) (hz : smallL acc) : Ev (fun k => accountingref09_Parse.l0 k s acc false) (fin acc) := by
  refine Ev.step (fun k => accountingref09_Parse.l0.eq_2 _ _ _ k) ?_
  simp only [Bool.false_eq_true, if_false]
  refine Ev.bind (refRight_ev acc hl (small_short hz)) ?_
  unfold fin
  cases rightB acc
  · exact Ev.now _
  · exact Ev.now _
theorem refParse_true : ∀ (n : Nat) (s : ByteArray) (acc : List S39), s.size < n → s.size ≤ 1000 → smallL acc → Ev (fun k => accountingref09_Parse.l0 k s acc true) (parseL n s acc) := by
  intro n
  induction n with
  | zero => intro s acc h; omega
  | succ n ih =>
    intro s acc h hs hz
    refine Ev.step (fun k => accountingref09_Parse.l0.eq_2 _ _ _ k) ?_
    have c1 := cutB_size 44 s
    have c2 := cutB_size 61 (cutB 44 s).1
    simp only [if_true]
    refine Ev.bind (part_ev 44 44 rfl s (by omega)) ?_
    refine Ev.bind (part_ev 61 61 rfl _ (by omega)) ?_
    unfold parseL
    cases hf : (cutB 61 (cutB 44 s).1).2.2
    · exact Ev.now _
    simp only [if_true]
    by_cases h6 : (acc.length : Int) > 6
    · simp only [if_pos h6, if_pos (show acc.length > 6 by omega)]; exact Ev.now _
    simp only [if_neg h6, if_neg (show ¬ acc.length > 6 by omega), if_pos (show acc.length < 4398046511104 by omega)]
    have hz' : smallL (acc ++ [tagOf s]) := by
      intro x hx
      rcases List.mem_append.mp hx with hx | hx
      · exact hz x hx
      · obtain rfl := List.mem_singleton.mp hx
        exact ⟨by show (cutB 61 (cutB 44 s).1).1.size ≤ 1000; omega, by show (cutB 61 (cutB 44 s).1).2.1.size ≤ 1000; omega⟩
    cases hg : (cutB 44 s).2.2
    · exact refParse_false _ _ (by simp; omega) hz'
    · have := c1.2.2 hg
      exact ih _ _ (by omega) (by omega) hz'
theorem refParse_ev (s : ByteArray) (hs : s.size ≤ 1000) : Ev (fun k => accountingref09_Parse.f k s) (parseB s) := by
  unfold accountingref09_Parse.f parseB
  rw [toL]
  by_cases h : L s = []
  · simp only [if_pos h]; exact Ev.now _
  · simp only [if_neg h]
    exact refParse_true _ s [] (by omega) hs (by intro x hx; simp at hx)
theorem fin_len (acc : List S39) : (fin acc).1.length ≤ 1000000 := by
  unfold fin
  split
  · rename_i h
    have := (right_named h).1
    show acc.length ≤ 1000000
    omega
  · exact Nat.zero_le _
theorem parseL_len : ∀ (n : Nat) (s : ByteArray) (acc : List S39), (parseL n s acc).1.length ≤ 1000000 := by
  intro n
  induction n with
  | zero => intro s acc; exact Nat.zero_le _
  | succ n ih =>
    intro s acc
    unfold parseL
    repeat' split
    · exact Nat.zero_le _
    · exact ih _ _
    · exact fin_len _
    · exact Nat.zero_le _
theorem parseB_len (s : ByteArray) : (parseB s).1.length ≤ 1000000 := by
  unfold parseB
  split
  · exact Nat.zero_le _
  · exact parseL_len _ _ _

/-- The bytes of a notation. -/
def body : List S39 → List UInt8
  | [] => []
  | x :: r => L x.f0 ++ 61 :: L x.f1 ++ (match r with | [] => [] | _ :: _ => 44 :: body r)
def tail (r : List S39) : List UInt8 := match r with | [] => [] | _ :: _ => 44 :: body r
theorem body_cons (x : S39) (r : List S39) : body (x :: r) = L x.f0 ++ 61 :: L x.f1 ++ tail r := by
  cases r <;> simp [body, tail]
theorem addT_false (acc : ByteArray) (l : List S39) : L (addT acc false l) = L acc ++ tail l := by
  induction l generalizing acc with
  | nil => simp [addT, tail]
  | cons x r ih =>
    unfold addT
    rw [ih]
    simp only [Bool.false_eq_true, if_false, L_app]
    show _ = L acc ++ 44 :: body (x :: r)
    rw [body_cons]
    simp [L]
theorem addT_true (l : List S39) : L (addT (⟨#[]⟩ : ByteArray) true l) = body l := by
  cases l with
  | nil => rfl
  | cons x r =>
    unfold addT
    rw [addT_false, body_cons]
    simp only [if_true, L_app]
    simp [L]
theorem code_no {s : ByteArray} (h : codeB s = true) (c : UInt8) (hc : isCodeByte c.toNat = false) : c ∉ L s := by
  simp only [codeB, Bool.and_eq_true, decide_eq_true_eq] at h
  intro hm
  have := h.2.2
  unfold allFrom at this
  rw [List.drop_zero, List.all_eq_true] at this
  have := this c hm
  rw [hc] at this
  exact absurd this (by simp)
theorem no44 {s : ByteArray} (h : codeB s = true) : (44 : UInt8) ∉ L s := code_no h 44 (by decide)
theorem no61 {s : ByteArray} (h : codeB s = true) : (61 : UInt8) ∉ L s := code_no h 61 (by decide)
theorem parse_body : ∀ (l : List S39) (n : Nat) (s : ByteArray) (acc : List S39), l ≠ [] → (∀ x ∈ l, namedB x = true) → L s = body l → s.size < n → acc.length + l.length ≤ 6 → parseL n s acc = fin (acc ++ l) := by
  intro l
  induction l with
  | nil => intro n s acc h; exact absurd rfl h
  | cons x r ih =>
    intro n s acc _ hn hs hsz hl
    simp only [List.length_cons] at hl
    cases n with
    | zero => omega
    | succ n =>
      have hx := hn x (List.mem_cons_self ..)
      have hx' := hx
      simp only [namedB, Bool.and_eq_true] at hx
      have h44 : (44 : UInt8) ∉ L (x.f0 ++ (⟨#[61]⟩ : ByteArray) ++ x.f1) := by
        rw [L_app, L_app]
        simp only [List.mem_append, not_or]
        exact ⟨⟨no44 hx.1, by decide⟩, no44 hx.2⟩
      have hB : L (x.f0 ++ (⟨#[61]⟩ : ByteArray) ++ x.f1) = L x.f0 ++ 61 :: L x.f1 := by
        rw [L_app, L_app]; simp [L]
      have hcut : cutB 61 (x.f0 ++ (⟨#[61]⟩ : ByteArray) ++ x.f1) = (x.f0, x.f1, true) := cutB_app 61 _ _ _ (no61 hx.1) hB
      rw [body_cons, ← hB] at hs
      unfold parseL
      cases r with
      | nil =>
        have e : s = x.f0 ++ (⟨#[61]⟩ : ByteArray) ++ x.f1 := L_inj (by rw [hs]; simp [tail])
        have e1 : cutB 44 s = (s, ⟨#[]⟩, false) := cutB_none 44 s (by rw [e]; exact h44)
        simp only [tagOf, e1]
        rw [e, hcut]
        simp only [if_true, if_neg (show ¬ acc.length > 6 by omega), Bool.false_eq_true, if_false]
      | cons y r' =>
        have hsy : L s = L (x.f0 ++ (⟨#[61]⟩ : ByteArray) ++ x.f1) ++ 44 :: L (⟨(body (y :: r')).toArray⟩ : ByteArray) := hs
        have e1 := cutB_app 44 s _ _ h44 hsy
        have hsz2 := cutB_size 44 s
        rw [e1] at hsz2
        simp only [tagOf, e1, hcut, if_true, if_neg (show ¬ acc.length > 6 by omega)]
        rw [ih n _ (acc ++ [x]) (by simp) (fun z hz => hn z (List.mem_cons_of_mem _ hz)) rfl (Nat.lt_of_lt_of_le (hsz2.2.2 rfl) (by omega)) (by simp at hl ⊢; omega)]
        simp
theorem parse_text (l : List S39) (h : rightB l = true) : parseB (textL l).1 = (l, 0) := by
  have hn := right_named h
  unfold textL
  rw [if_pos h]
  show parseB (addT ⟨#[]⟩ true l) = (l, 0)
  unfold parseB
  rw [addT_true]
  cases l with
  | nil => rfl
  | cons x r =>
    have hne : body (x :: r) ≠ [] := by rw [body_cons]; simp
    rw [if_neg hne, parse_body (x :: r) _ _ [] (by simp) hn.2 (addT_true _) (by omega) (by simpa using hn.1)]
    simp only [List.nil_append, fin, if_pos h]
theorem fin_ok {acc l : List S39} (h : fin acc = (l, 0)) : acc = l ∧ rightB l = true := by
  unfold fin at h
  split at h
  · rename_i hr
    have := congrArg Prod.fst h
    simp only at this
    subst this
    exact ⟨rfl, hr⟩
  · have := congrArg Prod.snd h
    simp at this
theorem parseL_ok : ∀ (n : Nat) (s : ByteArray) (acc l : List S39), parseL n s acc = (l, 0) → rightB l = true ∧ ∃ r, r ≠ [] ∧ l = acc ++ r ∧ L s = body r := by
  intro n
  induction n with
  | zero =>
    intro s acc l h
    have := congrArg Prod.snd h
    simp [parseL] at this
  | succ n ih =>
    intro s acc l h
    unfold parseL at h
    split at h
    · rename_i h61
      have f1 := cutB_found h61
      split at h
      · have := congrArg Prod.snd h; simp at this
      · split at h
        · rename_i h44
          have f0 := cutB_found h44
          obtain ⟨hr, r, hne, rfl, hb⟩ := ih _ _ _ h
          refine ⟨hr, tagOf s :: r, by simp, by simp, ?_⟩
          rw [body_cons, f0, f1, hb]
          cases r with
          | nil => exact absurd rfl hne
          | cons y r' => simp [tail, tagOf]
        · rename_i h44
          have f0 := cutB_lost (by simpa using h44)
          obtain ⟨rfl, hr⟩ := fin_ok h
          refine ⟨hr, [tagOf s], by simp, rfl, ?_⟩
          rw [body_cons]
          simp only [tail, List.append_nil, tagOf]
          rw [← f1, f0.1]
    · have := congrArg Prod.snd h; simp at this
theorem text_parse (s : ByteArray) (l : List S39) (h : parseB s = (l, 0)) : textL l = (s, 0) := by
  unfold parseB at h
  split at h
  · rename_i hs
    have := congrArg Prod.fst h
    simp only at this
    subst this
    show (addT ⟨#[]⟩ true [], 0) = (s, 0)
    congr 1
    exact L_inj (by rw [hs]; rfl)
  · obtain ⟨hr, r, hne, hl, hb⟩ := parseL_ok _ _ _ _ h
    rw [List.nil_append] at hl
    subst hl
    unfold textL
    rw [if_pos hr]
    congr 1
    exact L_inj (by rw [addT_true, hb])
theorem body_len (l : List S39) (h : ∀ x ∈ l, namedB x = true) : (body l).length ≤ 26 * l.length := by
  induction l with
  | nil => simp [body]
  | cons x r ih =>
    have hz := named_size (h x (List.mem_cons_self ..))
    have := ih fun y hy => h y (List.mem_cons_of_mem _ hy)
    rw [body_cons]
    have ht : (tail r).length ≤ (body r).length + 1 := by cases r <;> simp [tail]
    simp only [List.length_append, List.length_cons, L_len]
    omega
theorem text_size (l : List S39) : (textL l).1.size ≤ 1000 := by
  unfold textL
  split
  · rename_i h
    have hn := right_named h
    have := body_len l hn.2
    rw [← addT_true, L_len] at this
    show (addT ⟨#[]⟩ true l).size ≤ 1000
    omega
  · exact Nat.zero_le _
end Go.Proofs.Ytbljhfdmimmblaa.Sp

/- The list with a further tag, and the valid list with any tags: the layer 'dims' and its reference. -/
namespace Go.Proofs.Ytbljhfdmimmblaa.Sp
set_option linter.unusedSimpArgs false
set_option linter.unusedVariables false
open Go.RowKit Go.Proofs.Ytbljhfdmimmblaa.P Go.Proofs.YtbljhfdmimmblaaW.PrintWords Go.Proofs.YtbljhfdmimmblaaW.PrintLast

theorem insAt_le (l : List S39) (n : ByteArray) : insAt l n ≤ l.length := by
  unfold insAt
  induction l with
  | nil => simp
  | cons x r ih => rw [List.takeWhile_cons]; split <;> simp <;> omega
theorem insAt_step (l : List S39) (n : ByteArray) (i : Nat) (h : i < l.length) (hi : i ≤ insAt l n) : (Op.bytesLess l[i].f0.toList n.toList = true → i + 1 ≤ insAt l n) ∧ (Op.bytesLess l[i].f0.toList n.toList = false → insAt l n = i) := by
  unfold insAt at hi ⊢
  induction l generalizing i with
  | nil => simp at h
  | cons x r ih =>
    rw [List.takeWhile_cons] at hi ⊢
    cases hb : Op.bytesLess x.f0.toList n.toList
    · simp only [hb, Bool.false_eq_true, if_false, List.length_nil] at hi ⊢
      obtain rfl : i = 0 := by omega
      simp only [List.getElem_cons_zero, hb]
      simp
    · simp only [hb, if_true, List.length_cons] at hi ⊢
      cases i with
      | zero => simp only [List.getElem_cons_zero, hb]; simp
      | succ i =>
        simp only [List.getElem_cons_succ]
        have := ih i (by simpa using h) (by omega)
        exact ⟨fun e => by have := this.1 e; omega, fun e => by rw [this.2 e]⟩
def rest (n : ByteArray) : List S39 → List S39
  | [] => []
  | x :: r => if x.f0.toList = n.toList then r else x :: r
def putL (l : List S39) (t0 t1 : ByteArray) : List S39 := l.take (insAt l t0) ++ [⟨t0, t1⟩] ++ rest t0 (l.drop (insAt l t0))
theorem put_l0 (l : List S39) (hl : l.length ≤ 1000000) (t0 t1 : ByteArray) : ∀ (n i : Nat), l.length - i = n → i ≤ l.length → i ≤ insAt l t0 → Ev (fun k => accountingref09_put.l0 k l (l.take i) (i : Int) t0 t1) (putL l t0 t1) := by
  intro n
  induction n with
  | zero =>
    intro i hn hi hx
    have he : insAt l t0 = i := by have := insAt_le l t0; omega
    have hd : l.drop i = [] := List.drop_of_length_le (by omega)
    have ht : (l.take i).length < 4398046511104 := by rw [List.length_take]; omega
    have h2 : (l.take i ++ [(⟨t0, t1⟩ : S39)]).length + (l.drop i).length < 4398046511104 := by simp only [List.length_append, List.length_cons, List.length_nil, List.length_take, List.length_drop]; omega
    have e : putL l t0 t1 = l.take i ++ [(⟨t0, t1⟩ : S39)] ++ l.drop i := by unfold putL; rw [he, hd]; rfl
    refine Ev.step (fun k => accountingref09_put.l0.eq_2 _ _ _ _ _ k) ?_
    refine Ev.congr (f := fun _ => some (putL l t0 t1)) (fun k => ?_) (Ev.now _)
    rw [if_neg (show ¬ ((i : Int) < (l.length : Int)) by omega), if_pos ht, Option.bind_some, if_pos (show (0 : Int) ≤ (i : Int) by omega), if_pos (show (i : Int) ≤ (l.length : Int) by omega), Option.bind_some, Int.toNat_natCast, if_pos h2, e]
  | succ n ih =>
    intro i hn hi hx
    have h : i < l.length := by omega
    refine Ev.step (fun k => accountingref09_put.l0.eq_2 _ _ _ _ _ k) ?_
    have hw : wrap64 ((i : Int) + 1) = ((i + 1 : Nat) : Int) := by rw [w64 (by omega) (by omega)]; omega
    have ht : (l.take i).length < 4398046511104 := by rw [List.length_take]; omega
    have hst := insAt_step l t0 i h hx
    rw [← rd39 h] at hst
    simp only [if_pos (show ((i : Int) < (l.length : Int)) by omega), if_pos ht, Option.bind_some, if_pos (show (0 : Int) ≤ (i : Int) by omega), hw]
    cases hb : Op.bytesLess ((rd_T39 l (i : Int)).f0).toList t0.toList
    · have he := hst.2 hb
      simp only [Bool.false_eq_true, if_false]
      unfold putL
      rw [he, rdDrop h]
      by_cases hq : (rd_T39 l (i : Int)).f0.toList = t0.toList
      · have h2 : (l.take i ++ [(⟨t0, t1⟩ : S39)]).length + (l.drop (i + 1)).length < 4398046511104 := by simp only [List.length_append, List.length_cons, List.length_nil, List.length_take, List.length_drop]; omega
        simp only [if_pos hq, if_pos (show (0 : Int) ≤ ((i + 1 : Nat) : Int) by omega), if_pos (show ((i + 1 : Nat) : Int) ≤ (l.length : Int) by omega), Int.toNat_natCast, Option.bind_some, if_pos h2, rest]
        exact Ev.now _
      · have h2 : (l.take i ++ [(⟨t0, t1⟩ : S39)]).length + (l.drop i).length < 4398046511104 := by simp only [List.length_append, List.length_cons, List.length_nil, List.length_take, List.length_drop]; omega
        simp only [if_neg hq, if_pos (show (i : Int) ≤ (l.length : Int) by omega), Int.toNat_natCast, Option.bind_some, if_pos h2, rest]
        rw [← rdDrop h]
        exact Ev.now _
    · have he := hst.1 hb
      simp only [if_true]
      have hr : l.take i ++ [(⟨(rd_T39 l (i : Int)).f0, (rd_T39 l (i : Int)).f1⟩ : S39)] = l.take (i + 1) := by
        rw [List.take_succ_eq_append_getElem h, rd39 h]
      rw [hr]
      exact ih (i + 1) (by omega) (by omega) he
theorem put_ev (l : List S39) (hl : l.length ≤ 1000000) (t0 t1 : ByteArray) : Ev (fun k => accountingref09_put.f k l t0 t1) (putL l t0 t1) :=
  put_l0 l hl t0 t1 _ 0 rfl (by omega) (by omega)

def insL (l : List S39) (x : S39) : List S39 := l.take (insAt l x.f0) ++ [x] ++ l.drop (insAt l x.f0)
theorem insert_f (l : List S39) (hl : l.length ≤ 1000000) (x : S39) : dims_insert.f l x.f0 x.f1 = some (insL l x) := by
  unfold dims_insert.f insL
  rw [if_pos hl]
theorem insL_len (l : List S39) (x : S39) : (insL l x).length = l.length + 1 := by
  have := insAt_le l x.f0
  simp [insL]; omega
theorem getL_none {n : ByteArray} {l : List S39} (h : (getL n l).2 = false) : ∀ x ∈ l, ¬ x.f0.toList = n.toList := by
  induction l with
  | nil => intro x hx; simp at hx
  | cons y r ih =>
    unfold getL at h
    split at h
    · simp at h
    · rename_i hy
      intro x hx
      rcases List.mem_cons.mp hx with rfl | hx
      · exact hy
      · exact ih h x hx
theorem rest_none {n : ByteArray} {l : List S39} (h : ∀ x ∈ l, ¬ x.f0.toList = n.toList) : rest n l = l := by
  cases l with
  | nil => rfl
  | cons x r => simp [rest, h x (List.mem_cons_self ..)]
theorem put_ins {l : List S39} {x : S39} (h : (getL x.f0 l).2 = false) : putL l x.f0 x.f1 = insL l x := by
  unfold putL insL
  rw [rest_none (fun y hy => getL_none h y (List.mem_of_mem_drop hy))]
def makeL (acc : List S39) : List S39 → List S39 × Int
  | [] => (acc, 0)
  | x :: r => if namedB x = true then (if (getL x.f0 acc).2 = true then ([], 8) else makeL (insL acc x) r) else ([], 7)
theorem makeL_len (l : List S39) : ∀ acc : List S39, (makeL acc l).1.length ≤ acc.length + l.length := by
  induction l with
  | nil => intro acc; simp [makeL]
  | cons x r ih =>
    intro acc
    unfold makeL
    repeat' split
    · simp
    · have := ih (insL acc x)
      rw [insL_len] at this
      simp only [List.length_cons]
      omega
    · simp
theorem Make_l0 (l : List S39) (hl : l.length ≤ 6) : ∀ (n i : Nat) (acc : List S39), l.length - i = n → i ≤ l.length → acc.length ≤ i → Ev (fun k => dims_Make.l0 k acc l (l.length : Int) (i : Int)) (makeL acc (l.drop i)) := by
  intro n
  induction n with
  | zero =>
    intro i acc hn hi ha
    refine Ev.step (fun k => dims_Make.l0.eq_2 _ _ _ _ k) ?_
    simp only [if_neg (show ¬ ((i : Int) < (l.length : Int)) by omega)]
    rw [List.drop_of_length_le (by omega)]
    exact Ev.now _
  | succ n ih =>
    intro i acc hn hi ha
    refine Ev.step (fun k => dims_Make.l0.eq_2 _ _ _ _ k) ?_
    have hw : wrap64 ((i : Int) + 1) = ((i + 1 : Nat) : Int) := by rw [w64 (by omega) (by omega)]; omega
    simp only [if_pos (show ((i : Int) < (l.length : Int)) by omega), if_pos (show (0 : Int) ≤ (i : Int) by omega), hw, codes_f, Option.bind_some]
    rw [rdDrop (show i < l.length by omega)]
    unfold makeL
    cases hn : namedB (rd_T39 l (i : Int))
    · exact Ev.now _
    simp only [if_true]
    refine Ev.bind (Get_ev _ acc (by omega)) ?_
    cases hg : (getL (rd_T39 l (i : Int)).f0 acc).2
    · simp only [Bool.false_eq_true, if_false, insert_f acc (by omega), Option.bind_some]
      exact ih (i + 1) _ (by omega) (by omega) (by rw [insL_len]; omega)
    · exact Ev.now _
def makeB (l : List S39) : List S39 × Int := if l.length > 6 then ([], 9) else makeL [] l
theorem Make_ev (l : List S39) : Ev (fun k => dims_Make.f k l) (makeB l) := by
  unfold dims_Make.f makeB
  by_cases h : l.length > 6
  · simp only [if_pos h, if_pos (show (l.length : Int) > 6 by omega)]; exact Ev.now _
  · simp only [if_neg h, if_neg (show ¬ (l.length : Int) > 6 by omega)]
    exact Make_l0 l (by omega) _ 0 [] rfl (by omega) (by simp)
theorem refMake_l0 (l : List S39) (hl : l.length ≤ 6) (hz : shortL l) : ∀ (n i : Nat) (acc : List S39), l.length - i = n → i ≤ l.length → acc.length ≤ i → Ev (fun k => accountingref09_Make.l0 k l acc (i : Int)) (makeL acc (l.drop i)) := by
  intro n
  induction n with
  | zero =>
    intro i acc hn hi ha
    refine Ev.step (fun k => accountingref09_Make.l0.eq_2 _ _ _ k) ?_
    simp only [if_neg (show ¬ ((i : Int) < (l.length : Int)) by omega)]
    rw [List.drop_of_length_le (by omega)]
    exact Ev.now _
  | succ n ih =>
    intro i acc hn hi ha
    refine Ev.step (fun k => accountingref09_Make.l0.eq_2 _ _ _ k) ?_
    have hw : wrap64 ((i : Int) + 1) = ((i + 1 : Nat) : Int) := by rw [w64 (by omega) (by omega)]; omega
    have hzi := hz i (by omega)
    simp only [if_pos (show ((i : Int) < (l.length : Int)) by omega), if_pos (show (0 : Int) ≤ (i : Int) by omega), hw]
    rw [rdDrop (show i < l.length by omega)]
    refine Ev.bind (named_ev _ hzi.1 hzi.2) ?_
    unfold makeL
    cases hn : namedB (rd_T39 l (i : Int))
    · exact Ev.now _
    simp only [if_true]
    refine Ev.bind (refGet_ev _ acc (by omega)) ?_
    cases hg : (getL (rd_T39 l (i : Int)).f0 acc).2
    · simp only [Bool.false_eq_true, if_false]
      refine Ev.bind (put_ev acc (by omega) _ _) ?_
      rw [put_ins hg]
      exact ih (i + 1) _ (by omega) (by omega) (by rw [insL_len]; omega)
    · exact Ev.now _
theorem refMake_ev (l : List S39) (hz : shortL l) : Ev (fun k => accountingref09_Make.f k l) (makeB l) := by
  unfold accountingref09_Make.f makeB
  by_cases h : l.length > 6
  · simp only [if_pos h, if_pos (show (l.length : Int) > 6 by omega)]; exact Ev.now _
  · simp only [if_neg h, if_neg (show ¬ (l.length : Int) > 6 by omega)]
    exact refMake_l0 l (by omega) hz _ 0 [] rfl (by omega) (by simp)
theorem makeB_len (l : List S39) : (makeB l).1.length ≤ 1000000 := by
  unfold makeB
  split
  · simp
  · have := makeL_len l []
    simp only [List.length_nil] at this
    omega
theorem light_short {l : List S39} (h : lightB l = true) : l.length ≤ 20 ∧ shortL l := by
  simp only [lightB, Bool.and_eq_true, decide_eq_true_eq] at h
  refine ⟨h.1, ?_⟩
  intro i hi
  rw [rd39 hi]
  have := List.all_eq_true.mp h.2 _ (List.getElem_mem hi)
  simp only [small, Bool.and_eq_true, decide_eq_true_eq] at this
  omega
end Go.Proofs.Ytbljhfdmimmblaa.Sp

/- The list with a further tag: the layer 'dims' and its reference. -/
namespace Go.Proofs.Ytbljhfdmimmblaa.Sp
set_option linter.unusedSimpArgs false
set_option linter.unusedVariables false
open Go.RowKit Go.Proofs.Ytbljhfdmimmblaa.P Go.Proofs.YtbljhfdmimmblaaW.PrintWords Go.Proofs.YtbljhfdmimmblaaW.PrintLast

theorem less_irrefl (a : List UInt8) : Op.bytesLess a a = false := by
  have := bytesLess_tri a a
  simp at this
  exact this
theorem less_asymm {a b : List UInt8} (h : Op.bytesLess a b = true) : Op.bytesLess b a = false := by
  have := bytesLess_tri a b
  rw [h] at this
  simpa using this.symm
theorem less_trans : ∀ {a b c : List UInt8}, Op.bytesLess a b = true → Op.bytesLess b c = true → Op.bytesLess a c = true
  | _, _, [], _, h => by simp [Op.bytesLess] at h
  | _, [], _ :: _, h, _ => by simp [Op.bytesLess] at h
  | [], _ :: _, _ :: _, _, _ => rfl
  | x :: a, y :: b, z :: c, h1, h2 => by
    simp only [Op.bytesLess, Bool.or_eq_true, Bool.and_eq_true, decide_eq_true_eq, beq_iff_eq] at h1 h2 ⊢
    rcases h1 with h1 | ⟨rfl, h1⟩
    · rcases h2 with h2 | ⟨rfl, h2⟩
      · left; rw [UInt8.lt_iff_toNat_lt] at *; omega
      · left; exact h1
    · rcases h2 with h2 | ⟨rfl, h2⟩
      · left; exact h2
      · right; exact ⟨rfl, less_trans h1 h2⟩
theorem chk_gt : ∀ {q : S39} {r : List S39}, chk (some q) r = true → ∀ y ∈ r, Op.bytesLess q.f0.toList y.f0.toList = true := by
  intro q r
  induction r generalizing q with
  | nil => intro _ y hy; simp at hy
  | cons x r ih =>
    intro h y hy
    simp only [chk, Bool.and_eq_true] at h
    rcases List.mem_cons.mp hy with rfl | hy
    · exact h.2.1
    · exact less_trans h.2.1 (ih h.2.2 y hy)
theorem filter_gt {q : ByteArray} {r : List S39} (h : ∀ y ∈ r, Op.bytesLess q.toList y.f0.toList = true) : r.filter (keepP q) = r := by
  rw [List.filter_eq_self]
  intro y hy
  have := h y hy
  simp only [keepP, bne_iff_ne, ne_eq]
  intro e
  rw [e, less_irrefl] at this
  exact absurd this (by simp)
theorem insAt_gt {q : ByteArray} {r : List S39} (h : ∀ y ∈ r, Op.bytesLess q.toList y.f0.toList = true) : insAt r q = 0 := by
  cases r with
  | nil => rfl
  | cons y r =>
    unfold insAt
    rw [List.takeWhile_cons, less_asymm (h y (List.mem_cons_self ..))]
    rfl
theorem put_out (t0 t1 : ByteArray) : ∀ (l : List S39) (p : Option S39), chk p l = true → putL l t0 t1 = insL (l.filter (keepP t0)) ⟨t0, t1⟩ := by
  intro l
  induction l with
  | nil => intro p _; rfl
  | cons x r ih =>
    intro p h
    simp only [chk, Bool.and_eq_true] at h
    have hgt := chk_gt h.2.2
    cases hb : Op.bytesLess x.f0.toList t0.toList
    · have hi : insAt (x :: r) t0 = 0 := by
        unfold insAt; rw [List.takeWhile_cons, hb]; rfl
      by_cases he : x.f0.toList = t0.toList
      · have hgt' : ∀ y ∈ r, Op.bytesLess t0.toList y.f0.toList = true := fun y hy => by rw [← he]; exact hgt y hy
        have hf : (x :: r).filter (keepP t0) = r := by
          rw [List.filter_cons_of_neg (by simp [keepP, he])]
          exact filter_gt hgt'
        rw [hf]
        unfold putL insL
        rw [hi, insAt_gt hgt']
        simp [rest, he]
      · have hx : Op.bytesLess t0.toList x.f0.toList = true := by
          have := bytesLess_tri x.f0.toList t0.toList
          have hne2 : (x.f0.toList == t0.toList) = false := by simp only [beq_eq_false_iff_ne, ne_eq]; exact he
          rw [hb, hne2] at this
          simpa using this.symm
        have hgt' : ∀ y ∈ x :: r, Op.bytesLess t0.toList y.f0.toList = true := fun y hy => by
          rcases List.mem_cons.mp hy with rfl | hy
          · exact hx
          · exact less_trans hx (hgt y hy)
        rw [filter_gt hgt']
        unfold putL insL
        rw [hi]
        simp [rest, he]
    · have hne : ¬ x.f0.toList = t0.toList := fun e => by rw [e, less_irrefl] at hb; exact absurd hb (by simp)
      have hi : ∀ s : List S39, insAt (x :: s) t0 = insAt s t0 + 1 := fun s => by
        unfold insAt; rw [List.takeWhile_cons, hb]; rfl
      have := ih (some x) h.2.2
      rw [List.filter_cons_of_pos (by simp [keepP, hne])]
      unfold putL insL at this ⊢
      rw [hi, hi]
      simp only [List.take_succ_cons, List.drop_succ_cons, List.cons_append]
      exact congrArg (x :: ·) this
def withL (l : List S39) (t0 t1 : ByteArray) : List S39 × Int := if rightB l = true then (if namedB ⟨t0, t1⟩ = true then (if (putL l t0 t1).length > 6 then ([], 9) else (putL l t0 t1, 0)) else ([], 7)) else ([], 14)
theorem With_ev (l : List S39) (t0 t1 : ByteArray) : Ev (fun k => dims_With.f k l t0 t1) (withL l t0 t1) := by
  unfold dims_With.f withL
  refine Ev.bind (Right_ev l) ?_
  cases h : rightB l
  · exact Ev.now _
  have hr := right_named h
  have hch : chk none l = true := by
    simp only [rightB, Bool.and_eq_true] at h; exact h.2
  simp only [if_true, codes_f ⟨t0, t1⟩, Option.bind_some]
  cases hn : namedB ⟨t0, t1⟩
  · exact Ev.now _
  have hw : dims_Without.f l t0 = some (l.filter (keepP t0)) := by unfold dims_Without.f; rw [if_pos (by omega)]
  have hfl : (l.filter (keepP t0)).length ≤ 1000000 := by have := List.length_filter_le (keepP t0) l; omega
  simp only [if_true, hw, Option.bind_some, insert_f _ hfl ⟨t0, t1⟩, ← put_out t0 t1 l none hch]
  by_cases h6 : (putL l t0 t1).length > 6
  · simp only [if_pos h6, if_pos (show ((putL l t0 t1).length : Int) > 6 by omega)]; exact Ev.now _
  · simp only [if_neg h6, if_neg (show ¬ ((putL l t0 t1).length : Int) > 6 by omega)]; exact Ev.now _
theorem refWith_ev (l : List S39) (hl : l.length ≤ 1000000) (hz : shortL l) (t0 t1 : ByteArray) (h0 : t0.size ≤ 100000) (h1 : t1.size ≤ 100000) : Ev (fun k => accountingref09_With.f k l t0 t1) (withL l t0 t1) := by
  unfold accountingref09_With.f withL
  refine Ev.bind (refRight_ev l hl hz) ?_
  cases h : rightB l
  · exact Ev.now _
  simp only [if_true]
  refine Ev.bind (named_ev ⟨t0, t1⟩ h0 h1) ?_
  cases hn : namedB ⟨t0, t1⟩
  · exact Ev.now _
  simp only [if_true]
  refine Ev.bind (put_ev l hl t0 t1) ?_
  by_cases h6 : (putL l t0 t1).length > 6
  · simp only [if_pos h6, if_pos (show ((putL l t0 t1).length : Int) > 6 by omega)]; exact Ev.now _
  · simp only [if_neg h6, if_neg (show ¬ ((putL l t0 t1).length : Int) > 6 by omega)]; exact Ev.now _
theorem withL_len (l : List S39) (t0 t1 : ByteArray) : (withL l t0 t1).1.length ≤ 1000000 := by
  unfold withL
  repeat' split
  · exact Nat.zero_le _
  · show (putL l t0 t1).length ≤ 1000000; omega
  · exact Nat.zero_le _
  · exact Nat.zero_le _
end Go.Proofs.Ytbljhfdmimmblaa.Sp
