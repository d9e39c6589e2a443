/- Light lists, equal lists, the value of a tag, lists that match a pattern: the layer 'dims' and its reference. -/
import Derived.Test.YtbljhfdmimmblaaPx2
import Derived.Test.YtbljhfdmimmblaaPx6
import Derived.Test.YtbljhfdmimmblaaPx7
import Derived.Test.YtbljhfdmimmblaaPx24
import Derived.Laws.Strings
namespace Go.Proofs.Ytbljhfdmimmblaa.Sp
set_option linter.unusedSimpArgs false
set_option linter.unusedVariables false
open Go.RowKit Go.Proofs.Ytbljhfdmimmblaa.P Go.Proofs.YtbljhfdmimmblaaW.PrintWords Go.Proofs.YtbljhfdmimmblaaW.PrintLast

theorem w64 {x : Int} (h0 : 0 ≤ x) (h1 : x < 9223372036854775000) : wrap64 x = x := by unfold wrap64; omega

theorem rd39 {l : List S39} {i : Nat} (h : i < l.length) : rd_T39 l (i : Int) = l[i] := by
  simp [rd_T39, h]
theorem rdDrop {l : List S39} {i : Nat} (h : i < l.length) : l.drop i = rd_T39 l (i : Int) :: l.drop (i + 1) := by
  rw [rd39 h, List.drop_eq_getElem_cons h]

def small (x : S39) : Bool := decide (x.f0.size ≤ 100) && decide (x.f1.size ≤ 100)
theorem light_l0 (l : List S39) (hl : l.length ≤ 20) : ∀ (n i : Nat), l.length - i = n → i ≤ l.length → Ev (fun k => accountinglaw09_light.l0 k l (i : Int)) ((l.drop i).all small) := by
  intro n
  induction n with
  | zero =>
    intro i hn hi
    refine Ev.step (fun k => accountinglaw09_light.l0.eq_2 _ _ k) ?_
    simp only [if_neg (show ¬ ((i : Int) < (l.length : Int)) by omega)]
    rw [List.drop_of_length_le (by omega)]
    exact Ev.now _
  | succ n ih =>
    intro i hn hi
    refine Ev.step (fun k => accountinglaw09_light.l0.eq_2 _ _ k) ?_
    have hw : wrap64 ((i : Int) + 1) = ((i + 1 : Nat) : Int) := by rw [w64 (by omega) (by omega)]; omega
    simp only [if_pos (show ((i : Int) < (l.length : Int)) by omega), if_pos (show (0 : Int) ≤ (i : Int) by omega), hw]
    rw [rdDrop (show i < l.length by omega), List.all_cons]
    by_cases h0 : (((rd_T39 l (i : Int)).f0).size : Int) > 100
    · simp only [if_pos h0]
      have : small (rd_T39 l (i : Int)) = false := by simp [small]; omega
      rw [this]; exact Ev.now _
    simp only [if_neg h0]
    by_cases h1 : (((rd_T39 l (i : Int)).f1).size : Int) > 100
    · simp only [if_pos h1]
      have : small (rd_T39 l (i : Int)) = false := by simp [small]; omega
      rw [this]; exact Ev.now _
    simp only [if_neg h1]
    have : small (rd_T39 l (i : Int)) = true := by simp [small]; omega
    rw [this, Bool.true_and]
    exact ih (i + 1) (by omega) (by omega)
def lightB (l : List S39) : Bool := decide (l.length ≤ 20) && l.all small
theorem light_ev (l : List S39) : Ev (fun k => accountinglaw09_light.f k l) (lightB l) := by
  unfold accountinglaw09_light.f lightB
  by_cases h : (l.length : Int) > 20
  · simp only [if_pos h]
    have : decide (l.length ≤ 20) = false := decide_eq_false (by omega)
    rw [this]; exact Ev.now _
  · simp only [if_neg h]
    have : decide (l.length ≤ 20) = true := decide_eq_true (by omega)
    rw [this, Bool.true_and]
    exact light_l0 l (by omega) _ 0 rfl (by omega)

theorem same_l0 (l : List S39) (hl : l.length ≤ 1000000) : ∀ (n i : Nat), l.length - i = n → i ≤ l.length → Ev (fun k => accountingref09_Same.l0 k l l (i : Int)) true := by
  intro n
  induction n with
  | zero =>
    intro i hn hi
    refine Ev.step (fun k => accountingref09_Same.l0.eq_2 _ _ _ k) ?_
    simp only [if_neg (show ¬ ((i : Int) < (l.length : Int)) by omega)]
    exact Ev.now _
  | succ n ih =>
    intro i hn hi
    refine Ev.step (fun k => accountingref09_Same.l0.eq_2 _ _ _ k) ?_
    have hw : wrap64 ((i : Int) + 1) = ((i + 1 : Nat) : Int) := by rw [w64 (by omega) (by omega)]; omega
    simp only [if_pos (show ((i : Int) < (l.length : Int)) by omega), if_pos (show (0 : Int) ≤ (i : Int) by omega), hw, beq_self_eq_true, Bool.not_true, Bool.or_false, Bool.false_eq_true, if_false]
    exact ih (i + 1) (by omega) (by omega)
theorem same_ev (l : List S39) (hl : l.length ≤ 1000000) : Ev (fun k => accountingref09_Same.f k l l) true := by
  unfold accountingref09_Same.f
  simp only [if_true]
  exact same_l0 l hl _ 0 rfl (by omega)

/-- The value of the first tag of this name. -/
def getL (n : ByteArray) : List S39 → ByteArray × Bool
  | [] => (⟨#[]⟩, false)
  | x :: r => if x.f0.toList = n.toList then (x.f1, true) else getL n r
theorem refGet_l0 (n : ByteArray) (l : List S39) (hl : l.length ≤ 1000000) : ∀ (m i : Nat), l.length - i = m → i ≤ l.length → Ev (fun k => accountingref09_Get.l0 k l n (i : Int)) (getL n (l.drop i)) := by
  intro m
  induction m with
  | zero =>
    intro i hn hi
    refine Ev.step (fun k => accountingref09_Get.l0.eq_2 _ _ _ k) ?_
    simp only [if_neg (show ¬ ((i : Int) < (l.length : Int)) by omega)]
    rw [List.drop_of_length_le (by omega)]
    exact Ev.now _
  | succ m ih =>
    intro i hn hi
    refine Ev.step (fun k => accountingref09_Get.l0.eq_2 _ _ _ k) ?_
    have hw : wrap64 ((i : Int) + 1) = ((i + 1 : Nat) : Int) := by rw [w64 (by omega) (by omega)]; omega
    simp only [if_pos (show ((i : Int) < (l.length : Int)) by omega), if_pos (show (0 : Int) ≤ (i : Int) by omega), hw]
    rw [rdDrop (show i < l.length by omega)]
    unfold getL
    by_cases h : (rd_T39 l (i : Int)).f0.toList = n.toList
    · simp only [if_pos h]; exact Ev.now _
    · simp only [if_neg h]; exact ih (i + 1) (by omega) (by omega)
theorem refGet_ev (n : ByteArray) (l : List S39) (hl : l.length ≤ 1000000) : Ev (fun k => accountingref09_Get.f k l n) (getL n l) :=
  refGet_l0 n l hl _ 0 rfl (by omega)
theorem Get_eq (n : ByteArray) (l : List S39) : ∀ k (x : Int), dims_Get.l0 k n l (l.length : Int) x = accountingref09_Get.l0 k l n x := by
  intro k
  induction k with
  | zero => intro x; rfl
  | succ k ih =>
    intro x
    rw [dims_Get.l0, accountingref09_Get.l0]
    simp only [ih]
    by_cases h : x < (l.length : Int)
    · simp only [if_pos h]
    · simp only [if_neg h]
theorem Get_ev (n : ByteArray) (l : List S39) (hl : l.length ≤ 1000000) : Ev (fun k => dims_Get.f k l n) (getL n l) :=
  Ev.congr (fun k => Get_eq n l k 0) (refGet_ev n l hl)

def matchL (l : List S39) : List S39 → Bool
  | [] => true
  | x :: r => if (getL x.f0 l).2 = true then (if x.f1.toList = ([42] : List UInt8) then matchL l r else (if (getL x.f0 l).1.toList = x.f1.toList then matchL l r else false)) else false
theorem refMatch_l0 (p l : List S39) (hp : p.length ≤ 1000000) (hl : l.length ≤ 1000000) : ∀ (m i : Nat), p.length - i = m → i ≤ p.length → Ev (fun k => accountingref09_Match.l0 k p l (i : Int)) (matchL l (p.drop i)) := by
  intro m
  induction m with
  | zero =>
    intro i hn hi
    refine Ev.step (fun k => accountingref09_Match.l0.eq_2 _ _ _ k) ?_
    simp only [if_neg (show ¬ ((i : Int) < (p.length : Int)) by omega)]
    rw [List.drop_of_length_le (by omega)]
    exact Ev.now _
  | succ m ih =>
    intro i hn hi
    refine Ev.step (fun k => accountingref09_Match.l0.eq_2 _ _ _ k) ?_
    have hw : wrap64 ((i : Int) + 1) = ((i + 1 : Nat) : Int) := by rw [w64 (by omega) (by omega)]; omega
    simp only [if_pos (show ((i : Int) < (p.length : Int)) by omega), if_pos (show (0 : Int) ≤ (i : Int) by omega), hw]
    rw [rdDrop (show i < p.length by omega)]
    refine Ev.bind (refGet_ev _ l hl) ?_
    unfold matchL
    by_cases h0 : (getL (rd_T39 p (i : Int)).f0 l).2 = true
    · simp only [if_pos h0]
      by_cases h1 : (rd_T39 p (i : Int)).f1.toList = ([42] : List UInt8)
      · simp only [if_pos h1]; exact ih (i + 1) (by omega) (by omega)
      · simp only [if_neg h1]
        by_cases h2 : (getL (rd_T39 p (i : Int)).f0 l).1.toList = (rd_T39 p (i : Int)).f1.toList
        · simp only [if_pos h2]; exact ih (i + 1) (by omega) (by omega)
        · simp only [if_neg h2]; exact Ev.now _
    · simp only [if_neg h0]; exact Ev.now _
theorem refMatch_ev (p l : List S39) (hp : p.length ≤ 1000000) (hl : l.length ≤ 1000000) : Ev (fun k => accountingref09_Match.f k p l) (matchL l p) :=
  refMatch_l0 p l hp hl _ 0 rfl (by omega)
theorem Match_eq (p l : List S39) : ∀ k (x : Int), dims_Match.l0 k l p (p.length : Int) x = accountingref09_Match.l0 k p l x := by
  intro k
  induction k with
  | zero => intro x; rfl
  | succ k ih =>
    intro x
    rw [dims_Match.l0, accountingref09_Match.l0]
    simp only [ih, dims_Get.f, Get_eq, accountingref09_Get.f]
    by_cases h : x < (p.length : Int)
    · simp only [if_pos h, eq_comm (a := (rd_T39 p x).f1.toList) (b := ByteArray.toList _)]
    · simp only [if_neg h]
theorem Match_ev (p l : List S39) (hp : p.length ≤ 1000000) (hl : l.length ≤ 1000000) : Ev (fun k => dims_Match.f k p l) (matchL l p) :=
  Ev.congr (fun k => Match_eq p l k 0) (refMatch_ev p l hp hl)
end Go.Proofs.Ytbljhfdmimmblaa.Sp
