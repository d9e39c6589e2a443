/- Texts of mine and of the print, joined: OpnJ, SpecU, HandPrp, HandPrs, HandInq, HandMk, HandInr, Px52, Px49, Px54. -/
import Derived.Test.YtmflggbpiadkjaaGa
import Derived.Deep.Slices
import Derived.ChangeArms
import Derived.ChangeSame
import Derived.WideShapes
import Derived.Test.YtmflggbpiadkjaaGc
import Derived.Test.YtmflggbpiadkjaaGd
import Derived.Maps.RangeRun
import Derived.Laws.IdiomRangeMap
import Derived.Deep.RegionLaw
import Derived.Deep.AppendLies
import Derived.RegionTactic
import Derived.Laws.MakeOwn
/- Texts of mine, joined: Opn0, Opn. -/
/- What a value that is read as data is, kind by kind: numbers, strings, slices, structs. -/
-- squeezed
namespace Go.Proofs.Ytmflggbpiadkjaa.Op
open Go.RowKit Go.Proofs.YtmflggbpiadkjaaW.PrintWords Go.ChangeShapes Go.WideShapes Go.Deep
def FitL {α : Type} (f : α → Prop) (xs : List α) : Prop := xs.length ≤ maxLen ∧ ∀ x ∈ xs, f x
/-- Whatever is read at type t is of the kind k, and fits. -/
def Opn (P : Program) (t : TypeId) {α : Type} (k : Kd α) (fit : α → Prop) : Prop :=
 ∀ {H : Type} {enc : TypeId × Value → H} {w : World} {fuel : Nat} {cs : List Value} {x : DataW H × List MemPlace}, DataW.trod enc P w 0 (fun _ => true) true fuel t cs = some x → ∃ y, k.K w y cs ∧ fit y
section
variable {P : Program}
theorem opn_int {t : TypeId} {k : IntKind} (ht : P.underlying t = some (.int k)) : Opn P t (Kd.int k) (fun n => (Lit.int k n).wf = true) := by
 intro H enc w fuel cs x h
 obtain ⟨n, rfl, _, hn⟩ := DataW.trod_int ht h
 exact ⟨n, rfl, hn⟩
theorem opn_string {t : TypeId} (ht : P.underlying t = some .string) : Opn P t Kd.string (fun s => s.size ≤ maxLen) := by
 intro H enc w fuel cs x h
 obtain ⟨s, rfl, _, hs⟩ := DataW.trod_string ht h
 exact ⟨s, rfl, hs⟩
theorem opn_slice {t e : TypeId} {α : Type} {d : Kd α} {f : α → Prop} (ht : P.underlying t = some (.slice e)) (hC : P.cellsOf e = d.sz) (he : Opn P e d f) : Opn P t (Kd.slice e d) (FitL f) := by
 intro H enc w fuel cs x h
 rcases open_slice ht h with ⟨rfl, _⟩ | ⟨a, len, cap, m, n, D, Pl, rfl, hb, hl, hm, hmm, hx, hi⟩
 ·exact ⟨[], ⟨none, 0, rfl, Nat.le_refl _, ⟨rfl, by simp, fun h => by simp at h⟩⟩, by simp, fun x hx => by simp at hx⟩
 ·have hmc : m = cap := by rw [hmm]; simp
  have build : ∀ k, k ≤ len → ∃ ys : List α, ys.length = k ∧ (∀ y ∈ ys, f y) ∧ ∀ i y, ys[i]? = some y → ∃ c, c.length = d.sz ∧ d.K w y c ∧ ∀ j u, c[j]? = some u → w.cell? (a.add (i * d.sz + j)) = some u := by
   intro k
   induction k with
   | zero => exact fun _ => ⟨[], rfl, fun y hy => by simp at hy, fun i y hy => by simp at hy⟩
   | succ k ih =>
    intro hk
    obtain ⟨ys, hyl, hyf, hyc⟩ := ih (by omega)
    obtain ⟨cs', hc, ht'⟩ := hi k (by omega)
    obtain ⟨y, K, fy⟩ := he ht'
    rw [hC] at hc
    obtain ⟨_, hcl, hat⟩ := World.cells?_some hc
    refine ⟨ys ++ [y], by simp [hyl], fun z hz => ?_, fun i z hz => ?_⟩
    ·rcases List.mem_append.1 hz with hz | hz
     ·exact hyf z hz
     ·rw [List.mem_singleton.1 hz]; exact fy
    ·rcases Nat.lt_or_ge i ys.length with hlt | hge
     ·rw [List.getElem?_append_left hlt] at hz
      exact hyc i z hz
     ·have hil : i = ys.length := by
       have := (List.getElem?_eq_some_iff.1 hz).1
       simp at this; omega
      subst hil
      obtain rfl : y = z := by simpa using hz
      refine ⟨cs', hcl, K, fun j u hu => ?_⟩
      have hj : j < d.sz := by have := (List.getElem?_eq_some_iff.1 hu).1; omega
      rw [← Go.Deep.add_add, hyl, hat j hj, hu]
  obtain ⟨ys, hyl, hyf, hyc⟩ := build len (Nat.le_refl _)
  have hml : maxLen ≤ 9223372036854775807 := by unfold maxLen; omega
  exact ⟨ys, ⟨some a, cap, by rw [hyl], by omega, by rw [hyl]; exact ⟨hyl, by omega, fun _ => ⟨a, rfl, hyc⟩⟩⟩, by omega, hyf⟩
theorem Opn.last {α : Type} {k : Kd α} {w : World} {y : α} {cs : List Value} {o s : Nat} (h : k.K w y ((cs.drop o).take s)) (hl : cs.length ≤ o + s) : k.K w y (cs.drop o) := by
 rwa [List.take_of_length_le (by simp; omega)] at h
theorem Opn.cons {α β : Type} {a : Kd α} {b : Kd β} {w : World} {x : α} {y : β} {cs : List Value} {o s : Nat} (h : a.K w x ((cs.drop o).take s)) (k : b.K w y (cs.drop (o + s))) : (Kd.pair a b).K w (x, y) (cs.drop o) :=
 ⟨_, _, (by rw [← List.drop_drop]; exact (List.take_append_drop s (cs.drop o)).symm), h, k⟩
theorem Opn.zero {α : Type} {k : Kd α} {w : World} {y : α} {cs : List Value} (h : k.K w y (cs.drop 0)) : k.K w y cs := h
theorem opened_slice {H : Type} {enc : TypeId × Value → H} {w : World} {t e : TypeId} {α : Type} {d : Kd α} {f : α → Prop} {A : Option Addr} {len cap : Nat} {dd : DataW H} {ps : List MemPlace} (ho : Opn P t (Kd.slice e d) (FitL f))
  (h : DataW.Trod enc P w 0 (fun _ => true) true t (.slice A len cap) dd ps) : ∃ l : List α, l.length = len ∧ l.length ≤ cap ∧ d.C w A l.length l ∧ FitL f l := by
 obtain ⟨fuel, hf⟩ := h
 obtain ⟨y, ⟨A', c, e1, hl, hC⟩, fy⟩ := ho hf
 have e2 : Value.slice A len cap = Value.slice A' y.length c := by simpa [Value.cells] using e1
 injection e2 with e3 e4 e5
 subst e3 e4 e5
 exact ⟨y, rfl, hl, hC, fy⟩
end
end Go.Proofs.Ytmflggbpiadkjaa.Op
/- What a law's arguments read as: the openers of this seat's structs. -/
namespace Go.Proofs.Ytmflggbpiadkjaa.P
open Go.RowKit Go.Proofs.YtmflggbpiadkjaaW.PrintWords Go.Proofs.YtmflggbpiadkjaaW.PrintLast
open Go.Proofs.Ytmflggbpiadkjaa.Op
set_option linter.unusedVariables false
def fit32 (x : S32) : Prop := (fun s => s.size ≤ maxLen) x.f0 ∧ (fun s => s.size ≤ maxLen) x.f1 ∧ (fun s => s.size ≤ maxLen) x.f2 ∧ (fun s => s.size ≤ maxLen) x.f3 ∧ (fun s => s.size ≤ maxLen) x.f4
theorem opn32 : Opn Try.prog 32 k32 fit32 := by
 intro H enc w fuel cs x h
 obtain ⟨xs, n, _, _, hlen, hxl, hg⟩ := DataW.trod_struct Try.underlying32 h
 have hlen : cs.length = 5 := hlen.trans (by kernel_rfl)
 have g0 := (hg 0 _ rfl).trans (List.getElem?_eq_getElem (show 0 < xs.length by rw [hxl]; decide))
 change DataW.trod _ _ _ _ _ _ _ 9 (List.take (Try.prog.cellsOf 9) (List.drop 0 cs)) = _ at g0
 rw [show Try.prog.cellsOf 9 = 1 by kernel_rfl] at g0
 obtain ⟨y0, K0, f0⟩ := (opn_string Try.underlying9) g0
 have g1 := (hg 1 _ rfl).trans (List.getElem?_eq_getElem (show 1 < xs.length by rw [hxl]; decide))
 change DataW.trod _ _ _ _ _ _ _ 9 (List.take (Try.prog.cellsOf 9) (List.drop 1 cs)) = _ at g1
 rw [show Try.prog.cellsOf 9 = 1 by kernel_rfl] at g1
 obtain ⟨y1, K1, f1⟩ := (opn_string Try.underlying9) g1
 have g2 := (hg 2 _ rfl).trans (List.getElem?_eq_getElem (show 2 < xs.length by rw [hxl]; decide))
 change DataW.trod _ _ _ _ _ _ _ 9 (List.take (Try.prog.cellsOf 9) (List.drop 2 cs)) = _ at g2
 rw [show Try.prog.cellsOf 9 = 1 by kernel_rfl] at g2
 obtain ⟨y2, K2, f2⟩ := (opn_string Try.underlying9) g2
 have g3 := (hg 3 _ rfl).trans (List.getElem?_eq_getElem (show 3 < xs.length by rw [hxl]; decide))
 change DataW.trod _ _ _ _ _ _ _ 9 (List.take (Try.prog.cellsOf 9) (List.drop 3 cs)) = _ at g3
 rw [show Try.prog.cellsOf 9 = 1 by kernel_rfl] at g3
 obtain ⟨y3, K3, f3⟩ := (opn_string Try.underlying9) g3
 have g4 := (hg 4 _ rfl).trans (List.getElem?_eq_getElem (show 4 < xs.length by rw [hxl]; decide))
 change DataW.trod _ _ _ _ _ _ _ 9 (List.take (Try.prog.cellsOf 9) (List.drop 4 cs)) = _ at g4
 rw [show Try.prog.cellsOf 9 = 1 by kernel_rfl] at g4
 obtain ⟨y4, K4, f4⟩ := (opn_string Try.underlying9) g4
 exact ⟨⟨y0, y1, y2, y3, y4⟩, (show (Kd.pair Kd.string (Kd.pair Kd.string (Kd.pair Kd.string (Kd.pair Kd.string Kd.string)))).K w (y0, y1, y2, y3, y4) cs from Opn.zero (Opn.cons K0 (Opn.cons K1 (Opn.cons K2 (Opn.cons K3 (Opn.last K4 (by omega))))))), ⟨f0, f1, f2, f3, f4⟩⟩
def fit34 (x : S34) : Prop := fit32 x.f0 ∧ (fun n => (Lit.int .i64 n).wf = true) x.f1 ∧ (fun n => (Lit.int .i64 n).wf = true) x.f2
theorem opn34 : Opn Try.prog 34 k34 fit34 := by
 intro H enc w fuel cs x h
 obtain ⟨xs, n, _, _, hlen, hxl, hg⟩ := DataW.trod_struct Try.underlying34 h
 have hlen : cs.length = 7 := hlen.trans (by kernel_rfl)
 have g0 := (hg 0 _ rfl).trans (List.getElem?_eq_getElem (show 0 < xs.length by rw [hxl]; decide))
 change DataW.trod _ _ _ _ _ _ _ 32 (List.take (Try.prog.cellsOf 32) (List.drop 0 cs)) = _ at g0
 rw [show Try.prog.cellsOf 32 = 5 by kernel_rfl] at g0
 obtain ⟨y0, K0, f0⟩ := opn32 g0
 have g1 := (hg 1 _ rfl).trans (List.getElem?_eq_getElem (show 1 < xs.length by rw [hxl]; decide))
 change DataW.trod _ _ _ _ _ _ _ 3 (List.take (Try.prog.cellsOf 3) (List.drop 5 cs)) = _ at g1
 rw [show Try.prog.cellsOf 3 = 1 by kernel_rfl] at g1
 obtain ⟨y1, K1, f1⟩ := (opn_int Try.underlying3) g1
 have g2 := (hg 2 _ rfl).trans (List.getElem?_eq_getElem (show 2 < xs.length by rw [hxl]; decide))
 change DataW.trod _ _ _ _ _ _ _ 3 (List.take (Try.prog.cellsOf 3) (List.drop 6 cs)) = _ at g2
 rw [show Try.prog.cellsOf 3 = 1 by kernel_rfl] at g2
 obtain ⟨y2, K2, f2⟩ := (opn_int Try.underlying3) g2
 exact ⟨⟨y0, y1, y2⟩, (show (Kd.pair k32 (Kd.pair (Kd.int .i64) (Kd.int .i64))).K w (y0, y1, y2) cs from Opn.zero (Opn.cons K0 (Opn.cons K1 (Opn.last K2 (by omega))))), ⟨f0, f1, f2⟩⟩
end Go.Proofs.Ytmflggbpiadkjaa.P
namespace Go.Proofs.Ytmflggbpiadkjaa.P
open Go.RowKit Go.Sort Go.Proofs.YtmflggbpiadkjaaW.PrintWords Go.Proofs.YtmflggbpiadkjaaW.PrintLast Go.Proofs.Ytmflggbpiadkjaa.Op
set_option linter.unusedVariables false
set_option linter.unusedSimpArgs false
theorem w64 {n : Int} (h1 : -9223372036854775808 ≤ n) (h2 : n ≤ 9223372036854775807) : wrap64 n = n := by unfold wrap64; omega
theorem rd_at {l : List Int} {i : Nat} (h : i < l.length) : rd l (i : Int) = l[i] := by simp [rd, h]
theorem rd34_at {l : List S34} {i : Nat} (h : i < l.length) : rd_T34 l (i : Int) = l[i] := by simp [rd_T34, h]
theorem rd32_at {l : List S32} {i : Nat} (h : i < l.length) : rd_T32 l (i : Int) = l[i] := by simp [rd_T32, h]
theorem ba_beq (a b : ByteArray) : (a.toList == b.toList) = true ↔ a = b := by
 rw [beq_iff_eq]
 exact ⟨fun h => ByteArray.ext (Array.ext' (by rw [← ByteArray.toList_eq a, ← ByteArray.toList_eq b]; exact h)), fun h => by rw [h]⟩
/-- How the print holds two keys against each other. -/
theorem key_beq (x y : S32) : (x.f0.toList == y.f0.toList && (x.f1.toList == y.f1.toList && (x.f2.toList == y.f2.toList && (x.f3.toList == y.f3.toList && (x.f4.toList == y.f4.toList))))) = decide (cmpK x y = 0) := by
 rw [Bool.eq_iff_iff, decide_eq_true_iff]
 simp only [Bool.and_eq_true, ba_beq]
 constructor
 ·rintro ⟨h0, h1, h2, h3, h4⟩
  have e : x = y := by
   obtain ⟨a, b, c, d, e⟩ := x
   obtain ⟨a', b', c', d', e'⟩ := y
   rw [S32.mk.injEq]
   exact ⟨h0, h1, h2, h3, h4⟩
  rw [e]; exact cmpK_self y
 ·intro h
  have e := cmpK_zero h
  subst e
  exact ⟨rfl, rfl, rfl, rfl, rfl⟩
end Go.Proofs.Ytmflggbpiadkjaa.P
/- Sheets in plain words: what Of answers is known by its sums alone. -/
namespace Go.Proofs.Ytmflggbpiadkjaa.P
open Go.RowKit Go.Sort Go.Proofs.YtmflggbpiadkjaaW.PrintWords Go.Proofs.YtmflggbpiadkjaaW.PrintLast
set_option linter.unusedVariables false
set_option linter.unusedSimpArgs false
/-- The sums over the cells whose keys a test lets through. -/
def psA (P : S32 → Bool) (l : List S34) : Int := (amts (l.filter (fun c => P c.f0))).sum
def psB (P : S32 → Bool) (l : List S34) : Int := (bass (l.filter (fun c => P c.f0))).sum
theorem psA_nil (P : S32 → Bool) : psA P [] = 0 := rfl
theorem psB_nil (P : S32 → Bool) : psB P [] = 0 := rfl
theorem psA_cons (P : S32 → Bool) (c : S34) (r : List S34) : psA P (c :: r) = (if P c.f0 = true then c.f1 else 0) + psA P r := by
 unfold psA
 by_cases h : P c.f0 = true
 ·rw [List.filter_cons_of_pos (by exact h), if_pos h]; rfl
 ·rw [List.filter_cons_of_neg (by exact h), if_neg h, Int.zero_add]
theorem psB_cons (P : S32 → Bool) (c : S34) (r : List S34) : psB P (c :: r) = (if P c.f0 = true then c.f2 else 0) + psB P r := by
 unfold psB
 by_cases h : P c.f0 = true
 ·rw [List.filter_cons_of_pos (by exact h), if_pos h]; rfl
 ·rw [List.filter_cons_of_neg (by exact h), if_neg h, Int.zero_add]
theorem psA_append (P : S32 → Bool) : ∀ (a b : List S34), psA P (a ++ b) = psA P a + psA P b
 | [], b => by rw [List.nil_append, psA_nil, Int.zero_add]
 | c :: a, b => by rw [List.cons_append, psA_cons, psA_cons, psA_append P a b]; omega
theorem psB_append (P : S32 → Bool) : ∀ (a b : List S34), psB P (a ++ b) = psB P a + psB P b
 | [], b => by rw [List.nil_append, psB_nil, Int.zero_add]
 | c :: a, b => by rw [List.cons_append, psB_cons, psB_cons, psB_append P a b]; omega
def isK (k : S32) (x : S32) : Bool := decide (cmpK k x = 0)
theorem isK_iff {k x : S32} : isK k x = true ↔ k = x := by
 unfold isK
 rw [decide_eq_true_iff]
 exact ⟨cmpK_zero, fun h => by rw [h]; exact cmpK_self x⟩
theorem sumA_ps (l : List S34) (k : S32) : sumA l k = psA (isK k) l := rfl
theorem sumB_ps (l : List S34) (k : S32) : sumB l k = psB (isK k) l := rfl
theorem psA_zero {P : S32 → Bool} : ∀ {l : List S34}, (∀ c ∈ l, P c.f0 = false) → psA P l = 0
 | [], _ => rfl
 | c :: r, h => by rw [psA_cons, if_neg (by rw [h c (by simp)]; decide), psA_zero (fun x hx => h x (by simp [hx]))]; rfl
theorem psB_zero {P : S32 → Bool} : ∀ {l : List S34}, (∀ c ∈ l, P c.f0 = false) → psB P l = 0
 | [], _ => rfl
 | c :: r, h => by rw [psB_cons, if_neg (by rw [h c (by simp)]; decide), psB_zero (fun x hx => h x (by simp [hx]))]; rfl
theorem sumA_none {l : List S34} {k : S32} (h : k ∉ keysK l) : sumA l k = 0 := by
 rw [sumA_ps]
 refine psA_zero (fun c hc => ?_)
 rw [Bool.eq_false_iff]
 intro e
 exact h ((mem_keysK k l).2 ⟨c, hc, (isK_iff.1 e).symm⟩)
theorem sumB_none {l : List S34} {k : S32} (h : k ∉ keysK l) : sumB l k = 0 := by
 rw [sumB_ps]
 refine psB_zero (fun c hc => ?_)
 rw [Bool.eq_false_iff]
 intro e
 exact h ((mem_keysK k l).2 ⟨c, hc, (isK_iff.1 e).symm⟩)
/-! ### Of by the keys' cells -/
def cellOf (l : List S34) (k : S32) : S34 := ⟨k, sumA l k, sumB l k⟩
def nzC (c : S34) : Bool := decide (c.f1 ≠ 0 ∨ c.f2 ≠ 0)
def fitK (l : List S34) (k : S32) : Bool := fitB (sumA l k) && fitB (sumB l k)
theorem cells_1 (l : List S34) : ∀ (ks : List S32) (out : List S34), (cellsK l ks out).1 = ks.all (fitK l)
 | [], out => rfl
 | k :: t, out => by
  unfold cellsK
  rw [List.all_cons]
  rw [show (fitB (sumA l k) && fitB (sumB l k)) = fitK l k from rfl]
  cases h : fitK l k with
  | true => rw [if_pos rfl, Bool.true_and]; exact cells_1 l t _
  | false => rw [if_neg (by decide), Bool.false_and]
theorem cells_2 (l : List S34) : ∀ (ks : List S32) (out : List S34), ks.all (fitK l) = true → (cellsK l ks out).2 = out ++ (ks.map (cellOf l)).filter nzC
 | [], out, _ => by simp [cellsK]
 | k :: t, out, h => by
  rw [List.all_cons, Bool.and_eq_true] at h
  unfold cellsK
  have h1 : (fitB (sumA l k) && fitB (sumB l k)) = true := h.1
  rw [if_pos h1, cells_2 l t _ h.2, List.map_cons]
  by_cases c : sumA l k ≠ 0 ∨ sumB l k ≠ 0
  ·rw [if_pos c, List.filter_cons_of_pos (by exact decide_eq_true c), List.append_assoc]
   rfl
  ·rw [if_neg c, List.filter_cons_of_neg (by unfold nzC; rw [decide_eq_true_iff]; exact c)]
theorem ofK_eq (l : List S34) : ofK l = if (keysK l).all (fitK l) = true then (((keysK l).map (cellOf l)).filter nzC, 0) else ([], 4) := by
 unfold ofK
 rw [cells_1]
 by_cases h : (keysK l).all (fitK l) = true
 ·rw [if_pos h, if_pos h, cells_2 l _ _ h, List.nil_append]
 ·rw [if_neg h, if_neg h]
theorem fit_all (l : List S34) : (keysK l).all (fitK l) = true ↔ ∀ k, fitK l k = true := by
 rw [List.all_eq_true]
 constructor
 ·intro h k
  by_cases hk : k ∈ keysK l
  ·exact h k hk
  ·unfold fitK
   rw [sumA_none hk, sumB_none hk]
   decide
 ·exact fun h k _ => h k
theorem filter_map_keys (l : List S34) (ks : List S32) : (ks.map (cellOf l)).filter nzC = (ks.filter (fun k => nzC (cellOf l k))).map (cellOf l) := by
 rw [List.filter_map]; rfl
theorem ofK_congr {l m : List S34} (h : ∀ k, sumA l k = sumA m k ∧ sumB l k = sumB m k) : ofK l = ofK m := by
 have hf : ∀ k, fitK l k = fitK m k := fun k => by unfold fitK; rw [(h k).1, (h k).2]
 have hc : ∀ k, cellOf l k = cellOf m k := fun k => by unfold cellOf; rw [(h k).1, (h k).2]
 rw [ofK_eq, ofK_eq]
 by_cases ha : (keysK l).all (fitK l) = true
 ·have hb : (keysK m).all (fitK m) = true := (fit_all m).2 (fun k => by rw [← hf]; exact (fit_all l).1 ha k)
  rw [if_pos ha, if_pos hb, filter_map_keys, filter_map_keys]
  have e : (keysK l).filter (fun k => nzC (cellOf l k)) = (keysK m).filter (fun k => nzC (cellOf m k)) := by
   have nz : ∀ (x : List S34) (k : S32), nzC (cellOf x k) = true → k ∈ keysK x := by
    intro x k hk
    by_cases hm : k ∈ keysK x
    ·exact hm
    ·unfold cellOf nzC at hk
     simp only [sumA_none hm, sumB_none hm] at hk
     simp at hk
   refine ss_unique ((ss_keysK l).filter _) ((ss_keysK m).filter _) (fun k => ?_)
   rw [List.mem_filter, List.mem_filter]
   constructor
   ·rintro ⟨_, h2⟩
    have h2 : nzC (cellOf l k) = true := h2
    rw [hc] at h2
    exact ⟨nz m k h2, h2⟩
   ·rintro ⟨_, h2⟩
    have h2 : nzC (cellOf m k) = true := h2
    exact ⟨nz l k (by rw [hc]; exact h2), by show nzC (cellOf l k) = true; rw [hc]; exact h2⟩
  rw [e]
  congr 1
  exact List.map_congr_left (fun k _ => hc k)
 ·have hb : ¬ (keysK m).all (fitK m) = true := fun hb => ha ((fit_all l).2 (fun k => by rw [hf]; exact (fit_all m).1 hb k))
  rw [if_neg ha, if_neg hb]
theorem ofK_code (l : List S34) : (ofK l).2 = 0 ∨ ofK l = ([], 4) := by
 rw [ofK_eq]
 by_cases h : (keysK l).all (fitK l) = true
 ·rw [if_pos h]; exact .inl rfl
 ·rw [if_neg h]; exact .inr rfl
theorem ofK_fit {l : List S34} (h : (ofK l).2 = 0) : ∀ k, fitK l k = true := by
 rw [ofK_eq] at h
 by_cases hf : (keysK l).all (fitK l) = true
 ·exact (fit_all l).1 hf
 ·rw [if_neg hf] at h; cases h
theorem ofK_ok {l : List S34} (h : ∀ k, fitK l k = true) : ofK l = (((keysK l).map (cellOf l)).filter nzC, 0) := by
 rw [ofK_eq, if_pos ((fit_all l).2 h)]
/-! ### The sums of what Of answers -/
theorem ps_map (P : S32 → Bool) (l : List S34) : ∀ (ks : List S32), psA P (ks.map (cellOf l)) = ((ks.filter P).map (sumA l)).sum ∧ psB P (ks.map (cellOf l)) = ((ks.filter P).map (sumB l)).sum
 | [] => ⟨rfl, rfl⟩
 | k :: t => by
  have ih := ps_map P l t
  rw [List.map_cons, psA_cons, psB_cons, ih.1, ih.2]
  by_cases h : P k = true
  ·rw [List.filter_cons_of_pos h, if_pos (by exact h), if_pos (by exact h)]; exact ⟨rfl, rfl⟩
  ·rw [List.filter_cons_of_neg h, if_neg (by exact h), if_neg (by exact h), Int.zero_add, Int.zero_add]; exact ⟨rfl, rfl⟩
theorem ps_nz (P : S32 → Bool) : ∀ (l : List S34), psA P (l.filter nzC) = psA P l ∧ psB P (l.filter nzC) = psB P l
 | [] => ⟨rfl, rfl⟩
 | c :: r => by
  have ih := ps_nz P r
  by_cases h : nzC c = true
  ·rw [List.filter_cons_of_pos h, psA_cons, psB_cons, psA_cons, psB_cons, ih.1, ih.2]; exact ⟨rfl, rfl⟩
  ·rw [List.filter_cons_of_neg h, psA_cons, psB_cons, ih.1, ih.2]
   unfold nzC at h
   rw [decide_eq_true_iff] at h
   have h1 : c.f1 = 0 := by omega
   have h2 : c.f2 = 0 := by omega
   rw [h1, h2]
   constructor <;> (split <;> omega)
theorem sum_zero {α : Type} (f : α → Int) : ∀ (l : List α), (∀ x ∈ l, f x = 0) → (l.map f).sum = 0
 | [], _ => rfl
 | a :: l, h => by rw [List.map_cons, List.sum_cons, h a (by simp), sum_zero f l (fun x hx => h x (by simp [hx]))]; rfl
theorem sum_one (f : S32 → Int) (a : S32) : ∀ (ks : List S32), SS ks → a ∈ ks → (∀ k ∈ ks, k ≠ a → f k = 0) → (ks.map f).sum = f a
 | [], _, h, _ => by simp at h
 | k :: t, hs, h, h0 => by
  have hs' := List.pairwise_cons.1 hs
  rw [List.map_cons, List.sum_cons]
  by_cases e : k = a
  ·subst e
   rw [sum_zero f t (fun x hx => h0 x (by simp [hx]) (fun e => by
    have := hs'.1 x hx
    rw [e, cmpK_self] at this
    omega))]
   omega
  ·rw [h0 k (by simp) e, Int.zero_add]
   exact sum_one f a t hs'.2 (by rcases List.mem_cons.1 h with h | h; exact absurd h.symm e; exact h) (fun x hx hne => h0 x (by simp [hx]) hne)
theorem sum_addf (f g : S32 → Int) : ∀ (ks : List S32), (ks.map (fun k => f k + g k)).sum = (ks.map f).sum + (ks.map g).sum
 | [] => rfl
 | k :: t => by
  have ih := sum_addf f g t
  simp only [List.map_cons, List.sum_cons]
  omega
theorem sum_keys (P : S32 → Bool) (ks : List S32) (hs : SS ks) : ∀ (l : List S34), (∀ c ∈ l, c.f0 ∈ ks) → ((ks.filter P).map (sumA l)).sum = psA P l ∧ ((ks.filter P).map (sumB l)).sum = psB P l
 | [], _ => ⟨sum_zero _ _ (fun _ _ => rfl), sum_zero _ _ (fun _ _ => rfl)⟩
 | c :: r, h => by
  have ih := sum_keys P ks hs r (fun x hx => h x (by simp [hx]))
  have eA : sumA (c :: r) = fun k => (if isK k c.f0 = true then c.f1 else 0) + sumA r k := funext fun k => psA_cons (isK k) c r
  have eB : sumB (c :: r) = fun k => (if isK k c.f0 = true then c.f2 else 0) + sumB r k := funext fun k => psB_cons (isK k) c r
  rw [eA, eB, sum_addf, sum_addf, ih.1, ih.2, psA_cons, psB_cons]
  have hss : SS (ks.filter P) := hs.filter _
  by_cases hp : P c.f0 = true
  ·have hm : c.f0 ∈ ks.filter P := List.mem_filter.2 ⟨h c (by simp), hp⟩
   have hz : ∀ (v : Int), ∀ k ∈ ks.filter P, k ≠ c.f0 → (if isK k c.f0 = true then v else 0) = 0 := fun v k _ hne => if_neg (fun e => hne (isK_iff.1 e))
   rw [sum_one _ c.f0 _ hss hm (hz c.f1), sum_one _ c.f0 _ hss hm (hz c.f2), if_pos hp, if_pos hp, if_pos (isK_iff.2 rfl), if_pos (isK_iff.2 rfl)]
   exact ⟨rfl, rfl⟩
  ·have hz : ∀ (v : Int), ∀ k ∈ ks.filter P, (if isK k c.f0 = true then v else 0) = 0 := fun v k hk => if_neg (fun e => hp (by rw [← isK_iff.1 e]; exact (List.mem_filter.1 hk).2))
   rw [sum_zero _ _ (hz c.f1), sum_zero _ _ (hz c.f2), if_neg hp, if_neg hp]
   exact ⟨rfl, rfl⟩
/-- Of changes no sum. -/
theorem ps_ofK {l : List S34} (h : (ofK l).2 = 0) (P : S32 → Bool) : psA P (ofK l).1 = psA P l ∧ psB P (ofK l).1 = psB P l := by
 rw [ofK_ok (ofK_fit h)]
 have h1 := ps_nz P ((keysK l).map (cellOf l))
 have h2 := ps_map P l (keysK l)
 have h3 := sum_keys P (keysK l) (ss_keysK l) l (fun c hc => (mem_keysK c.f0 l).2 ⟨c, hc, rfl⟩)
 exact ⟨h1.1.trans (h2.1.trans h3.1), h1.2.trans (h2.2.trans h3.2)⟩
/-! ### Sheets -/
def RightL (s : List S34) : Prop := (∀ c ∈ s, badC c = false) ∧ SS (s.map S34.f0)
theorem rd34_get {l : List S34} {i : Nat} (h : i < l.length) : rd_T34 l (i : Int) = l[i] := by simp [rd_T34, h]
theorem right_iff (s : List S34) : rightB s = true ↔ RightL s := by
 unfold rightB RightL
 rw [List.all_eq_true]
 constructor
 ·intro h
  have hb : ∀ (i : Nat) (hi : i < s.length), badC s[i] = false ∧ (∀ h0 : 0 < i, cmpK (s[i - 1]'(by omega)).f0 s[i].f0 < 0) := by
   intro i hi
   have h1 := h i (List.mem_range.2 hi)
   unfold badAt at h1
   rw [rd34_get hi, Bool.not_or, Bool.and_eq_true] at h1
   refine ⟨by simpa using h1.1, fun h0 => ?_⟩
   have h2 := h1.2
   rw [decide_eq_true h0, Bool.true_and, rd34_get (show i - 1 < s.length by omega), Bool.not_eq_true', decide_eq_false_iff_not] at h2
   omega
  refine ⟨fun c hc => ?_, ?_⟩
  ·obtain ⟨i, hi, rfl⟩ := List.mem_iff_getElem.1 hc
   exact (hb i hi).1
  ·refine List.pairwise_iff_getElem.2 (fun i j hi hj hij => ?_)
   rw [List.length_map] at hi hj
   rw [List.getElem_map, List.getElem_map]
   have step : ∀ d, i + d + 1 < s.length → (hd : i + d + 1 < s.length) → cmpK s[i].f0 (s[i + d + 1]).f0 < 0 := by
    intro d
    induction d with
    | zero => intro _ hd; exact (hb (i + 1) hd).2 (by omega)
    | succ d ih =>
     intro _ hd
     have h1 := ih (by omega) (by omega)
     have h2 := (hb (i + (d + 1) + 1) hd).2 (by omega)
     exact cmpK_trans h1 h2
   obtain ⟨d, rfl⟩ : ∃ d, j = i + d + 1 := ⟨j - i - 1, by omega⟩
   exact step d hj hj
 ·rintro ⟨h1, h2⟩ i hi
  rw [List.mem_range] at hi
  unfold badAt
  rw [rd34_get hi, h1 _ (List.getElem_mem hi), Bool.false_or]
  by_cases h0 : 0 < i
  ·have h3 := List.pairwise_iff_getElem.1 h2 (i - 1) i (by rw [List.length_map]; omega) (by rw [List.length_map]; omega) (by omega)
   rw [List.getElem_map, List.getElem_map] at h3
   rw [decide_eq_true h0, Bool.true_and, rd34_get (show i - 1 < s.length by omega), decide_eq_false (by omega)]
   rfl
  ·rw [decide_eq_false h0]; rfl
theorem bad_iff (c : S34) : badC c = false ↔ nzC c = true ∧ fitB c.f1 = true ∧ fitB c.f2 = true := by
 unfold badC nzC
 by_cases h1 : c.f1 = 0 <;> by_cases h2 : c.f2 = 0 <;> cases fitB c.f1 <;> cases fitB c.f2 <;> simp [h1, h2]
theorem right_ofK (l : List S34) : RightL (ofK l).1 := by
 rcases ofK_code l with h | h
 ·have hf := ofK_fit h
  rw [ofK_ok hf]
  refine ⟨fun c hc => ?_, ?_⟩
  ·have h1 := List.mem_filter.1 hc
   obtain ⟨k, hk, rfl⟩ := List.mem_map.1 h1.1
   have h2 := hf k
   unfold fitK at h2
   rw [Bool.and_eq_true] at h2
   exact (bad_iff _).2 ⟨h1.2, h2.1, h2.2⟩
  ·refine List.Pairwise.sublist (List.filter_sublist.map _) ?_
   rw [List.map_map, show (S34.f0 ∘ cellOf l) = id from rfl, List.map_id]
   exact ss_keysK l
 ·rw [h]
  exact ⟨fun c hc => by simp at hc, List.Pairwise.nil⟩
theorem ps_in (s : List S34) (h : SS (s.map S34.f0)) : ∀ c ∈ s, sumA s c.f0 = c.f1 ∧ sumB s c.f0 = c.f2 := by
 induction s with
 | nil => intro c hc; simp at hc
 | cons x r ih =>
  have h' := List.pairwise_cons.1 h
  intro c hc
  have hx : ∀ y ∈ r, cmpK x.f0 y.f0 < 0 := fun y hy => h'.1 y.f0 (List.mem_map.2 ⟨y, hy, rfl⟩)
  rcases List.mem_cons.1 hc with rfl | hc
  ·rw [sumA_ps, sumB_ps, psA_cons, psB_cons, if_pos (isK_iff.2 rfl), if_pos (isK_iff.2 rfl), psA_zero (fun y hy => by unfold isK; exact decide_eq_false (by have := hx y hy; omega)), psB_zero (fun y hy => by unfold isK; exact decide_eq_false (by have := hx y hy; omega))]
   exact ⟨Int.add_zero _, Int.add_zero _⟩
  ·have hn : ¬ isK c.f0 x.f0 = true := fun e => by
    have h1 := hx c hc
    rw [isK_iff.1 e, cmpK_self] at h1
    omega
   rw [sumA_ps, sumB_ps, psA_cons, psB_cons, if_neg hn, if_neg hn, Int.zero_add, Int.zero_add]
   exact ih h'.2 c hc
theorem insK_len (k : S32) : ∀ (ks : List S32), (insK k ks).length ≤ ks.length + 1
 | [] => Nat.le_refl _
 | a :: b => by
  have ih := insK_len k b
  unfold insK
  by_cases h1 : cmpK k a < 0
  ·rw [if_pos h1]; simp
  ·rw [if_neg h1]
   by_cases h2 : cmpK k a = 0
   ·rw [if_pos h2]; simp
   ·rw [if_neg h2]; simp only [List.length_cons]; omega
theorem keysK_le : ∀ (l : List S34), (keysK l).length ≤ l.length
 | [] => Nat.le_refl _
 | c :: r => by
  have := insK_len c.f0 (keysK r)
  have := keysK_le r
  unfold keysK
  simp only [List.length_cons]
  omega
theorem ofK_le (l : List S34) : (ofK l).1.length ≤ l.length := by
 rcases ofK_code l with h | h
 ·rw [ofK_ok (ofK_fit h)]
  refine Nat.le_trans (List.length_filter_le _ _) ?_
  rw [List.length_map]
  exact keysK_le l
 ·rw [h]; exact Nat.zero_le _
theorem okS_right {s : List S34} (h : RightL s) (hl : s.length ≤ 1000000) : OkS s :=
 ⟨hl, fun x hx => ⟨fit_i64 ((bad_iff x).1 (h.1 x hx)).2.1, fit_i64 ((bad_iff x).1 (h.1 x hx)).2.2⟩⟩
/-! ### Negation -/
def negC (c : S34) : S34 := ⟨c.f0, -c.f1, -c.f2⟩
theorem ps_neg (P : S32 → Bool) : ∀ (l : List S34), psA P (l.map negC) = - psA P l ∧ psB P (l.map negC) = - psB P l
 | [] => ⟨rfl, rfl⟩
 | c :: r => by
  have ih := ps_neg P r
  rw [List.map_cons, psA_cons, psB_cons, psA_cons, psB_cons, ih.1, ih.2]
  show (if P c.f0 = true then -c.f1 else 0) + _ = _ ∧ (if P c.f0 = true then -c.f2 else 0) + _ = _
  by_cases h : P c.f0 = true
  ·rw [if_pos h, if_pos h, if_pos h, if_pos h]; constructor <;> omega
  ·rw [if_neg h, if_neg h, if_neg h, if_neg h]; constructor <;> omega
/-! ### Other keys -/
end Go.Proofs.Ytmflggbpiadkjaa.P
namespace Go.Proofs.Ytmflggbpiadkjaa.P
open Go.RowKit Go.Sort Go.Proofs.YtmflggbpiadkjaaW.PrintWords Go.Proofs.YtmflggbpiadkjaaW.PrintLast
set_option linter.unusedVariables false
set_option linter.unusedSimpArgs false
/-! ### The order of the pairs -/
def k2S (k : K2) : S32 := ⟨k.1, k.2, ⟨#[]⟩, ⟨#[]⟩, ⟨#[]⟩⟩
def pk (p : S89) : S32 := k2S (p.f0, p.f1)
theorem k2S_inj {a b : K2} (h : k2S a = k2S b) : a = b := by
 unfold k2S at h
 rw [S32.mk.injEq] at h
 exact Prod.ext h.1 h.2.1
theorem cmp_k2 (a b : K2) : cmpK (k2S a) (k2S b) = if cmpB a.1 b.1 = 0 then cmpB a.2 b.2 else cmpB a.1 b.1 := by
 have e : cmpB (⟨#[]⟩ : ByteArray) ⟨#[]⟩ = 0 := rfl
 rw [cmpK_eq]
 unfold k2S
 simp only [e, if_true]
 by_cases h : cmpB a.1 b.1 = 0
 ·rw [if_pos h, if_pos h]
  by_cases h2 : cmpB a.2 b.2 = 0
  ·rw [if_pos h2, h2]
  ·rw [if_neg h2]
 ·rw [if_neg h, if_neg h]
theorem compare_pure (x : S89) (a b : ByteArray) (n : Int) : interco_compare.f x.f0 x.f1 x.f2 a b n = some (cmpK (pk x) (k2S (a, b))) := by
 unfold interco_compare.f strings_Compare.f pk
 rw [cmp_k2]
 by_cases h : cmpB x.f0 a = 0
 ·simp only [Option.bind_some, if_pos h]
 ·simp only [Option.bind_some, if_neg h]
theorem rd89_at {l : List S89} {i : Nat} (h : i < l.length) : rd_T89 l (i : Int) = l[i] := by simp [rd_T89, h]
theorem mid_w {i j : Nat} (h : i + j ≤ 4000000) : wrap64 ((IntKind.u64.wrap (wrap64 ((i : Int) + (j : Int)))) / 2) = (((i + j) / 2 : Nat) : Int) := by
 have h1 : wrap64 ((i : Int) + (j : Int)) = ((i + j : Nat) : Int) := by rw [w64 (by omega) (by omega)]; omega
 have h2 : IntKind.u64.wrap ((i + j : Nat) : Int) = ((i + j : Nat) : Int) := by
  rw [IntKind.wrap_u64]; omega
 rw [h1, h2, w64 (by omega) (by omega)]
 omega
theorem search_l0 (out : List S89) (a b : ByteArray) (n : Int) (hl : out.length ≤ 1000000) (hs : SS (out.map pk)) : ∀ (d i j : Nat), j - i ≤ d → i ≤ j → j ≤ out.length →
  (∀ q (h : q < out.length), q < i → cmpK (pk out[q]) (k2S (a, b)) < 0) → (∀ q (h : q < out.length), j ≤ q → 0 ≤ cmpK (pk out[q]) (k2S (a, b))) →
  ∃ (k : Nat) (bb : Bool), Ev (fun kr => bin_search.l0 kr out (out.length : Int) (i : Int) (j : Int) a b n) ((k : Int), bb) ∧ k ≤ out.length ∧ (∀ q (h : q < out.length), q < k → cmpK (pk out[q]) (k2S (a, b)) < 0) ∧ (∀ q (h : q < out.length), k ≤ q → 0 ≤ cmpK (pk out[q]) (k2S (a, b))) := by
 have srt : ∀ (q p : Nat) (hq : q < out.length) (hp : p < out.length), q < p → cmpK (pk out[q]) (pk out[p]) < 0 := fun q p hq hp h => by
  have := List.pairwise_iff_getElem.1 hs q p (by simpa using hq) (by simpa using hp) h
  simpa using this
 intro d
 induction d with
 | zero =>
  intro i j hd hij hj h1 h2
  obtain rfl : i = j := by omega
  by_cases hlt : i < out.length
  ·refine ⟨i, cmpK (pk out[i]) (k2S (a, b)) == 0, ?_, hj, h1, h2⟩
   refine Ev.step (fun k => bin_search.l0.eq_2 _ _ _ _ _ _ _ k) ?_
   simp only [if_neg (show ¬ ((i : Int) < (i : Int)) by omega), if_pos (show (i : Int) < (out.length : Int) by omega), if_pos (show (0 : Int) ≤ (i : Int) by omega), compare_pure, rd89_at hlt, Option.bind_some]
   exact Ev.now _
  ·refine ⟨i, false, ?_, hj, h1, h2⟩
   refine Ev.step (fun k => bin_search.l0.eq_2 _ _ _ _ _ _ _ k) ?_
   simp only [if_neg (show ¬ ((i : Int) < (i : Int)) by omega), if_neg (show ¬ (i : Int) < (out.length : Int) by omega)]
   exact Ev.now _
 | succ d ih =>
  intro i j hd hij hj h1 h2
  by_cases hlt : i < j
  ·have hm : (i + j) / 2 < out.length := by omega
   have hw : wrap64 ((((i + j) / 2 : Nat) : Int) + 1) = (((i + j) / 2 + 1 : Nat) : Int) := by rw [w64 (by omega) (by omega)]; omega
   by_cases hc : cmpK (pk out[(i + j) / 2]) (k2S (a, b)) < 0
   ·obtain ⟨k, bb, he, h3⟩ := ih ((i + j) / 2 + 1) j (by omega) (by omega) hj (fun q hq hqm => by
     rcases Nat.lt_or_ge q ((i + j) / 2) with h | h
     ·exact cmpK_trans (srt q _ hq hm h) hc
     ·obtain rfl : q = (i + j) / 2 := by omega
      exact hc) h2
    refine ⟨k, bb, ?_, h3⟩
    refine Ev.step (fun k => bin_search.l0.eq_2 _ _ _ _ _ _ _ k) ?_
    simp only [if_pos (show ((i : Int) < (j : Int)) by omega), mid_w (show i + j ≤ 4000000 by omega), if_pos (show (0 : Int) ≤ (((i + j) / 2 : Nat) : Int) by omega), if_pos (show (((i + j) / 2 : Nat) : Int) < (out.length : Int) by omega), compare_pure, rd89_at hm, Option.bind_some, if_pos hc, hw]
    exact he
   ·obtain ⟨k, bb, he, h3⟩ := ih i ((i + j) / 2) (by omega) (by omega) (by omega) h1 (fun q hq hqm => by
     rcases Nat.lt_or_ge ((i + j) / 2) q with h | h
     ·have := srt _ q hm hq h
      rcases Int.lt_or_le (cmpK (pk out[q]) (k2S (a, b))) 0 with h4 | h4
      ·exact absurd (cmpK_trans this h4) hc
      ·exact h4
     ·obtain rfl : q = (i + j) / 2 := by omega
      omega)
    refine ⟨k, bb, ?_, h3⟩
    refine Ev.step (fun k => bin_search.l0.eq_2 _ _ _ _ _ _ _ k) ?_
    simp only [if_pos (show ((i : Int) < (j : Int)) by omega), mid_w (show i + j ≤ 4000000 by omega), if_pos (show (0 : Int) ≤ (((i + j) / 2 : Nat) : Int) by omega), if_pos (show (((i + j) / 2 : Nat) : Int) < (out.length : Int) by omega), compare_pure, rd89_at hm, Option.bind_some, if_neg hc]
    exact he
  ·exact ih i j (by omega) hij hj h1 h2
/-- Where a new pair goes, and what is left then. -/
theorem search_ok (out : List S89) (p : S89) (hl : out.length ≤ 1000000) (hs : SS (out.map pk)) (hn : ∀ x ∈ out, pk x ≠ pk p) :
  ∃ (kr k : Nat) (bb : Bool), bin_search.f kr out p.f0 p.f1 p.f2 = some ((k : Int), bb) ∧ k ≤ out.length ∧ SS ((out.take k ++ [p] ++ out.drop k).map pk) ∧ ∀ x, x ∈ out.take k ++ [p] ++ out.drop k ↔ x = p ∨ x ∈ out := by
 obtain ⟨k, bb, he, hk, h1, h2⟩ := search_l0 out p.f0 p.f1 p.f2 hl hs out.length 0 out.length (by omega) (by omega) (Nat.le_refl _) (fun q _ h => absurd h (by omega)) (fun q h h3 => absurd h (by omega))
 obtain ⟨kr, hkr⟩ := Ev.rounds he
 refine ⟨kr, k, bb, hkr, hk, ?_, fun x => ?_⟩
 ·have ht : ∀ x ∈ out.take k, cmpK (pk x) (pk p) < 0 := fun x hx => by
   obtain ⟨q, hq, rfl⟩ := List.mem_iff_getElem.1 hx
   rw [List.length_take] at hq
   rw [List.getElem_take]
   exact h1 q (by omega) (by omega)
  have hd : ∀ x ∈ out.drop k, cmpK (pk p) (pk x) < 0 := fun x hx => by
   obtain ⟨q, hq, rfl⟩ := List.mem_iff_getElem.1 hx
   rw [List.length_drop] at hq
   rw [List.getElem_drop]
   have h3 := h2 (k + q) (by omega) (by omega)
   have h4 := hn out[k + q] (List.getElem_mem _)
   have h5 : cmpK (pk out[k + q]) (k2S (p.f0, p.f1)) ≠ 0 := fun e => h4 (cmpK_zero e)
   have h6 := cmp3_K.sw (pk out[k + q]) (k2S (p.f0, p.f1))
   show cmpK (k2S (p.f0, p.f1)) (pk out[k + q]) < 0
   omega
  have hst : SS ((out.take k).map pk) := by rw [List.map_take]; exact hs.take
  have hsd : SS ((out.drop k).map pk) := by rw [List.map_drop]; exact hs.drop
  rw [List.append_assoc, List.map_append, List.map_append]
  refine List.pairwise_append.2 ⟨hst, ?_, ?_⟩
  ·refine List.pairwise_cons.2 ⟨fun x hx => ?_, hsd⟩
   obtain ⟨y, hy, rfl⟩ := List.mem_map.1 (by simpa using hx : x ∈ (out.drop k).map pk)
   exact hd y hy
  ·intro x hx y hy
   obtain ⟨x', hx', rfl⟩ := List.mem_map.1 hx
   rcases List.mem_append.1 hy with hy | hy
   ·simp only [List.map_cons, List.map_nil, List.mem_singleton] at hy
    subst hy
    exact ht x' hx'
   ·obtain ⟨y', hy', rfl⟩ := List.mem_map.1 hy
    exact cmpK_trans (ht x' hx') (hd y' hy')
 ·rw [List.mem_append, List.mem_append, List.mem_singleton]
  have e : out = out.take k ++ out.drop k := (List.take_append_drop k out).symm
  constructor
  ·rintro ((h | h) | h)
   ·exact .inr (List.mem_of_mem_take h)
   ·exact .inl h
   ·exact .inr (List.mem_of_mem_drop h)
  ·rintro (h | h)
   ·exact .inl (.inr h)
   ·rw [e, List.mem_append] at h
    rcases h with h | h
    ·exact .inl (.inl h)
    ·exact .inr h
/-! ### The groups -/
def cpl (c : S34) : K2 := if Op.bytesLess c.f0.f0.toList c.f0.f3.toList = true then (c.f0.f0, c.f0.f3) else (c.f0.f3, c.f0.f0)
theorem couple_pure (c : S34) : interco_coupleOf.f c.f0.f0 c.f0.f1 c.f0.f2 c.f0.f3 c.f0.f4 = some ((cpl c).1, (cpl c).2) := by
 unfold interco_coupleOf.f cpl
 by_cases h : Op.bytesLess c.f0.f0.toList c.f0.f3.toList = true
 ·rw [if_pos h, if_pos h]
 ·rw [if_neg h, if_neg h]
def grpOf (l : List S34) : List (K2 × List Int) := l.foldl (fun G c => addG (cpl c) c.f2 G) []
theorem grpOf_take (l : List S34) {k : Nat} (h : k < l.length) : grpOf (l.take (k + 1)) = addG (cpl l[k]) l[k].f2 (grpOf (l.take k)) := by
 unfold grpOf
 rw [List.take_add_one, List.getElem?_eq_getElem h, List.foldl_append]
 rfl
def ck (c : S34) : S34 := ⟨k2S (cpl c), 0, c.f2⟩
theorem addG_mem {k : K2} {x : Int} : ∀ {G : List (K2 × List Int)} {q : K2 × List Int}, (G.map (·.1)).Nodup → q ∈ addG k x G → (q ∈ G ∧ q.1 ≠ k) ∨ (q.1 = k ∧ ((∃ xs, (k, xs) ∈ G ∧ q.2 = xs ++ [x]) ∨ ((∀ p ∈ G, p.1 ≠ k) ∧ q.2 = [x])))
 | [], q, _, h => by
  simp only [addG, List.mem_singleton] at h
  subst h
  exact .inr ⟨rfl, .inr ⟨fun p hp => by simp at hp, rfl⟩⟩
 | p :: r, q, hn, h => by
  rw [List.map_cons, List.nodup_cons] at hn
  unfold addG at h
  by_cases e : p.1 = k
  ·rw [if_pos e] at h
   rcases List.mem_cons.1 h with rfl | h
   ·exact .inr ⟨e, .inl ⟨p.2, by rw [← e]; exact List.mem_cons_self .., rfl⟩⟩
   ·refine .inl ⟨List.mem_cons_of_mem _ h, fun e2 => hn.1 ?_⟩
    rw [e, ← e2]
    exact List.mem_map.2 ⟨q, h, rfl⟩
  ·rw [if_neg e] at h
   rcases List.mem_cons.1 h with rfl | h
   ·exact .inl ⟨List.mem_cons_self .., e⟩
   ·rcases addG_mem hn.2 h with ⟨h1, h2⟩ | ⟨h1, ⟨xs, h2, h3⟩ | ⟨h2, h3⟩⟩
    ·exact .inl ⟨List.mem_cons_of_mem _ h1, h2⟩
    ·exact .inr ⟨h1, .inl ⟨xs, List.mem_cons_of_mem _ h2, h3⟩⟩
    ·refine .inr ⟨h1, .inr ⟨fun p' hp' => ?_, h3⟩⟩
     rcases List.mem_cons.1 hp' with rfl | hp'
     ·exact e
     ·exact h2 p' hp'
theorem addG_keys (k : K2) (x : Int) : ∀ (G : List (K2 × List Int)) (k' : K2), k' ∈ (addG k x G).map (·.1) ↔ k' = k ∨ k' ∈ G.map (·.1)
 | [], k' => by simp [addG]
 | p :: r, k' => by
  unfold addG
  by_cases e : p.1 = k
  ·rw [if_pos e]
   simp only [List.map_cons, List.mem_cons, e]
   constructor
   ·rintro (h | h)
    ·exact .inl h
    ·exact .inr (.inr h)
   ·rintro (h | h | h)
    ·exact .inl h
    ·exact .inl h
    ·exact .inr h
  ·rw [if_neg e, List.map_cons, List.mem_cons, addG_keys k x r k', List.map_cons, List.mem_cons]
   constructor
   ·rintro (h | h | h)
    ·exact .inr (.inl h)
    ·exact .inl h
    ·exact .inr (.inr h)
   ·rintro (h | h | h)
    ·exact .inr (.inl h)
    ·exact .inl h
    ·exact .inr (.inr h)
theorem addG_nodup (k : K2) (x : Int) : ∀ (G : List (K2 × List Int)), (G.map (·.1)).Nodup → ((addG k x G).map (·.1)).Nodup
 | [], _ => by simp [addG]
 | p :: r, h => by
  rw [List.map_cons, List.nodup_cons] at h
  unfold addG
  by_cases e : p.1 = k
  ·rw [if_pos e, List.map_cons, List.nodup_cons]; exact h
  ·rw [if_neg e, List.map_cons, List.nodup_cons]
   refine ⟨fun hm => ?_, addG_nodup k x r h.2⟩
   rcases (addG_keys k x r _).1 hm with h1 | h1
   ·exact e h1
   ·exact h.1 h1
structure GOk (G : List (K2 × List Int)) (m : List S34) : Prop where
 nodup : (G.map (·.1)).Nodup
 keys : ∀ k : K2, k ∈ G.map (·.1) ↔ ∃ c ∈ m, c.f0 = k2S k
 sums : ∀ q ∈ G, q.2.sum = psB (isK (k2S q.1)) m
 all : ∀ c ∈ m, ∃ k : K2, c.f0 = k2S k
 len : ∀ q ∈ G, q.2.length ≤ m.length
 ints : ∀ q ∈ G, ∀ x ∈ q.2, ∃ c ∈ m, x = c.f2
theorem GOk.step {G : List (K2 × List Int)} {m : List S34} (h : GOk G m) (k : K2) (x : Int) : GOk (addG k x G) (m ++ [⟨k2S k, 0, x⟩]) := by
 have ps : ∀ P, psB P (m ++ [⟨k2S k, 0, x⟩]) = psB P m + if P (k2S k) = true then x else 0 := fun P => by
  rw [psB_append, psB_cons, psB_nil, Int.add_zero]
 refine ⟨addG_nodup k x G h.nodup, fun k' => ?_, fun q hq => ?_, fun c hc => ?_, fun q hq => ?_, fun q hq y hy => ?_⟩
 ·rw [addG_keys, h.keys]
  constructor
  ·rintro (rfl | ⟨c, hc, e⟩)
   ·exact ⟨⟨k2S k', 0, x⟩, by simp, rfl⟩
   ·exact ⟨c, by simp [hc], e⟩
  ·rintro ⟨c, hc, e⟩
   rcases List.mem_append.1 hc with hc | hc
   ·exact .inr ⟨c, hc, e⟩
   ·simp only [List.mem_singleton] at hc
    subst hc
    exact .inl (k2S_inj e).symm
 ·rw [ps]
  rcases addG_mem h.nodup hq with ⟨h1, h2⟩ | ⟨h1, ⟨xs, h2, h3⟩ | ⟨h2, h3⟩⟩
  ·rw [if_neg (fun e => h2 (k2S_inj (isK_iff.1 e))), Int.add_zero]
   exact h.sums q h1
  ·rw [h1, h3, List.sum_append, List.sum_cons, List.sum_nil, Int.add_zero, if_pos (isK_iff.2 rfl), h.sums _ h2]
  ·rw [h1, h3, if_pos (isK_iff.2 rfl), psB_zero (fun c hc => ?_)]
   ·simp
   ·rw [Bool.eq_false_iff]
    intro e
    have := isK_iff.1 e
    obtain ⟨q', hq', e'⟩ := List.mem_map.1 ((h.keys k).2 ⟨c, hc, this.symm⟩)
    exact h2 q' hq' e'
 ·rcases List.mem_append.1 hc with hc | hc
  ·exact h.all c hc
  ·simp only [List.mem_singleton] at hc
   subst hc
   exact ⟨k, rfl⟩
 ·rw [List.length_append]
  rcases addG_mem h.nodup hq with ⟨h1, h2⟩ | ⟨h1, ⟨xs, h2, h3⟩ | ⟨h2, h3⟩⟩
  ·have := h.len q h1; simp; omega
  ·have := h.len _ h2
   rw [h3, List.length_append]
   simp only [List.length_cons, List.length_nil]
   simp only at this
   omega
  ·rw [h3]; simp
 ·rcases addG_mem h.nodup hq with ⟨h1, h2⟩ | ⟨h1, ⟨xs, h2, h3⟩ | ⟨h2, h3⟩⟩
  ·obtain ⟨c, hc, e⟩ := h.ints q h1 y hy
   exact ⟨c, by simp [hc], e⟩
  ·rw [h3] at hy
   rcases List.mem_append.1 hy with hy | hy
   ·obtain ⟨c, hc, e⟩ := h.ints _ h2 y hy
    exact ⟨c, by simp [hc], e⟩
   ·simp only [List.mem_singleton] at hy
    subst hy
    exact ⟨⟨k2S k, 0, y⟩, by simp, rfl⟩
  ·rw [h3] at hy
   simp only [List.mem_singleton] at hy
   subst hy
   exact ⟨⟨k2S k, 0, y⟩, by simp, rfl⟩
theorem gok (l : List S34) : GOk (grpOf l) (l.map ck) := by
 have gen : ∀ (l : List S34) (G : List (K2 × List Int)) (m : List S34), GOk G m → GOk (l.foldl (fun G c => addG (cpl c) c.f2 G) G) (m ++ l.map ck) := by
  intro l
  induction l with
  | nil => intro G m h; simpa using h
  | cons c r ih =>
   intro G m h
   have := ih (addG (cpl c) c.f2 G) (m ++ [ck c]) (h.step (cpl c) c.f2)
   rw [List.append_assoc] at this
   exact this
 have := gen l [] [] ⟨List.nodup_nil, fun k => by simp, fun q hq => by simp at hq, fun c hc => by simp at hc, fun q hq => by simp at hq, fun q hq => by simp at hq⟩
 simpa [grpOf] using this
/-! ### What pairs answers -/
def prK (l : List S34) : List S89 × Int :=
 if (keysK (l.map ck)).all (fun k => fitB (sumB (l.map ck) k)) = true then ((keysK (l.map ck)).map (fun k => ⟨k.f0, k.f1, sumB (l.map ck) k⟩), 0) else ([], 4)
def pairOf (q : K2 × List Int) : S89 := ⟨q.1.1, q.1.2, if i64ok q.2.sum then q.2.sum else 0⟩
theorem key_of {l : List S34} {k : S32} (hk : k ∈ keysK (l.map ck)) : ∃ q ∈ grpOf l, k = k2S q.1 ∧ q.2.sum = sumB (l.map ck) k := by
 obtain ⟨c, hc, rfl⟩ := (mem_keysK k _).1 hk
 obtain ⟨k2, e⟩ := (gok l).all c hc
 obtain ⟨q, hq, e2⟩ := List.mem_map.1 (((gok l).keys k2).2 ⟨c, hc, e⟩)
 refine ⟨q, hq, by rw [e, ← e2], ?_⟩
 rw [sumB_ps, e, ← e2]
 exact (gok l).sums q hq
theorem of_key {l : List S34} {q : K2 × List Int} (hq : q ∈ grpOf l) : k2S q.1 ∈ keysK (l.map ck) ∧ q.2.sum = sumB (l.map ck) (k2S q.1) := by
 obtain ⟨c, hc, e⟩ := ((gok l).keys q.1).1 (List.mem_map.2 ⟨q, hq, rfl⟩)
 exact ⟨(mem_keysK _ _).2 ⟨c, hc, e⟩, (gok l).sums q hq⟩
theorem pr_end (l : List S34) (out : List S89) (over : Bool) (hs : SS (out.map pk)) (hm : ∀ p, p ∈ out ↔ ∃ q ∈ grpOf l, p = pairOf q) (ho : over = true ↔ ∃ q ∈ grpOf l, fitB q.2.sum = false) :
  (if over = true then (([] : List S89), (4 : Int)) else (out, 0)) = prK l := by
 unfold prK
 by_cases h : over = true
 ·rw [if_pos h, if_neg]
  obtain ⟨q, hq, e⟩ := ho.1 h
  have := of_key hq
  rw [List.all_eq_true]
  intro hall
  have := hall _ this.1
  rw [← (of_key hq).2, e] at this
  cases this
 ·have hfit : ∀ q ∈ grpOf l, fitB q.2.sum = true := fun q hq => by
   cases hf : fitB q.2.sum with
   | true => rfl
   | false => exact absurd (ho.2 ⟨q, hq, hf⟩) h
  rw [if_neg h, if_pos (List.all_eq_true.2 (fun k hk => by
   obtain ⟨q, hq, rfl, e⟩ := key_of hk
   rw [← e]
   exact hfit q hq))]
  have hk : out.map pk = keysK (l.map ck) := ss_unique hs (ss_keysK _) (fun k => by
   constructor
   ·intro hk
    obtain ⟨p, hp, rfl⟩ := List.mem_map.1 hk
    obtain ⟨q, hq, rfl⟩ := (hm p).1 hp
    exact (of_key hq).1
   ·intro hk
    obtain ⟨q, hq, rfl, _⟩ := key_of hk
    exact List.mem_map.2 ⟨pairOf q, (hm _).2 ⟨q, hq, rfl⟩, rfl⟩)
  rw [← hk, List.map_map]
  have e : out = out.map ((fun k : S32 => (⟨k.f0, k.f1, sumB (l.map ck) k⟩ : S89)) ∘ pk) := by
   have e1 : out.map ((fun k : S32 => (⟨k.f0, k.f1, sumB (l.map ck) k⟩ : S89)) ∘ pk) = out.map id := List.map_congr_left (fun p hp => by
    obtain ⟨q, hq, rfl⟩ := (hm p).1 hp
    have h1 := hfit q hq
    show (⟨q.1.1, q.1.2, sumB (l.map ck) (k2S q.1)⟩ : S89) = ⟨q.1.1, q.1.2, if i64ok q.2.sum then q.2.sum else 0⟩
    rw [if_pos (fit_i64 h1), (of_key hq).2])
   rw [e1, List.map_id]
  exact congrArg (fun x => (x, (0 : Int))) e
end Go.Proofs.Ytmflggbpiadkjaa.P
namespace Go.Proofs.Ytmflggbpiadkjaa.P
open Go.RowKit Go.Proofs.YtmflggbpiadkjaaW.PrintWords Go.Proofs.YtmflggbpiadkjaaW.PrintLast Go.Proofs.YtmflggbpiadkjaaW.PrintMore Go.Maps Go.ChangeShapes Go.WideShapes Go.WideMaps
open Go.ChangeMaps (setBlock)
set_option linter.unusedVariables false
set_option linter.unusedSimpArgs false
theorem one_cells (w : World) (x : Value) (t : TypeId) (b : Nat) {W1 : World} (hb : b < w.heap.size) (h : ∀ (p : Addr) (u : Value), p.block ≠ b → (w.alloc (.cells #[x] t)).cell? p = some u → W1.cell? p = some u) : ∀ j u, [x][j]? = some u → W1.cell? ((⟨w.heap.size, 0, none⟩ : Addr).add j) = some u := by
 intro j u hj
 have h1 := cell_one_new w x t j u hj
 refine h _ _ ?_ h1
 have e : ((⟨w.heap.size, 0, none⟩ : Addr).add j).block = w.heap.size := by unfold Addr.add; split <;> rfl
 omega
/-- A row of whole numbers, as the print's words have it. -/
theorem R_ints {w : World} {base : Nat} {v : Value} {xs : List Int} (h : w.ownsRow base 3 1 v xs.length (xs.map (Value.int .i64))) : Kd.R (Kd.int .i64) 3 w base (fun _ => True) v xs := by
 refine ⟨fun _ _ => trivial, xs.map (Value.int .i64), h, ?_⟩
 refine ⟨by rw [List.length_map]; exact (Nat.mul_one _).symm, fun j p hj => ?_⟩
 have hlt : j < xs.length := (List.getElem?_eq_some_iff.1 hj).1
 have hp : xs[j] = p := by rw [List.getElem?_eq_getElem hlt] at hj; exact Option.some.inj hj
 change (Kd.int .i64).M w base _ p (List.take 1 (List.drop (j * 1) (xs.map (Value.int .i64))))
 rw [Nat.mul_one, ← List.map_drop, List.drop_eq_getElem_cons hlt, hp]
 exact rfl
/-- How far a range over a map has come. -/
def iterN (w : World) (r : Nat) : Nat := match w.heap[r]? with
 | some (.mapIter _ _ seen _) => seen.size
 | _ => 0
theorem iterN_eq {w : World} {r s c : Nat} {m : Option Nat} {seen : Array Nat} (h : w.heap[r]? = some (.mapIter m s seen c)) : iterN w r = seen.size := by unfold iterN; rw [h]
/-- The pairs that have come, and what they leave. -/
structure Come (G : List (K2 × List Int)) (seen : Array Nat) (out : List S89) (over : Bool) : Prop where
 nodup : seen.toList.Nodup
 lt : ∀ j ∈ seen.toList, j < G.length
 srt : SS (out.map pk)
 mem : ∀ p, p ∈ out ↔ ∃ (j : Nat) (q : K2 × List Int), j ∈ seen.toList ∧ G[j]? = some q ∧ p = pairOf q
 ov : over = true ↔ ∃ (j : Nat) (q : K2 × List Int), j ∈ seen.toList ∧ G[j]? = some q ∧ fitB q.2.sum = false
 len : out.length ≤ seen.size
theorem Come.none (G : List (K2 × List Int)) : Come G #[] [] false :=
 ⟨List.nodup_nil, fun j hj => by simp at hj, List.Pairwise.nil, fun p => by simp, by simp, Nat.le_refl _⟩
theorem nodup_le : ∀ (n : Nat) (l : List Nat), l.Nodup → (∀ j ∈ l, j < n) → l.length ≤ n
 | 0, l, _, h => by
  cases l with
  | nil => exact Nat.le_refl _
  | cons a r => exact absurd (h a (by simp)) (by omega)
 | n + 1, l, hn, h => by
  have h1 := nodup_le n (l.erase n) (hn.erase n) (fun j hj => by
   have h2 := (hn.mem_erase_iff).1 hj
   have := h j h2.2
   have h3 := h2.1
   omega)
  rw [List.length_erase] at h1
  split at h1 <;> omega
theorem Come.size {G : List (K2 × List Int)} {seen : Array Nat} {out : List S89} {over : Bool} (h : Come G seen out over) : seen.size ≤ G.length := by
 have h1 : seen.toList.Nodup := h.nodup
 have h3 := nodup_le G.length _ h1 h.lt
 simpa using h3
theorem Come.new {G : List (K2 × List Int)} {seen : Array Nat} {out : List S89} {over : Bool} (h : Come G seen out over) (hd : (G.map (·.1)).Nodup) {j : Nat} {q : K2 × List Int} (hq : G[j]? = some q) (hj : j ∉ seen.toList) : ∀ x ∈ out, pk x ≠ pk (pairOf q) := by
 intro x hx e
 obtain ⟨i, q', hi, hq', rfl⟩ := (h.mem x).1 hx
 have e1 : q'.1 = q.1 := k2S_inj e
 have hil := (List.getElem?_eq_some_iff.1 hq').1
 have hjl := (List.getElem?_eq_some_iff.1 hq).1
 have : i = j := by
  have h1 : (G.map (·.1))[i]'(by simpa using hil) = (G.map (·.1))[j]'(by simpa using hjl) := by
   rw [List.getElem_map, List.getElem_map]
   rw [List.getElem?_eq_getElem hil] at hq'
   rw [List.getElem?_eq_getElem hjl] at hq
   rw [Option.some.inj hq', Option.some.inj hq]
   exact e1
  exact (List.getElem_inj hd).1 h1
 exact hj (this ▸ hi)
theorem Come.step {G : List (K2 × List Int)} {seen : Array Nat} {out out' : List S89} {over : Bool} (h : Come G seen out over) {j : Nat} {q : K2 × List Int} (hq : G[j]? = some q) (hj : j ∉ seen.toList) (hs : SS (out'.map pk)) (hm : ∀ x, x ∈ out' ↔ x = pairOf q ∨ x ∈ out) (hl : out'.length ≤ out.length + 1) :
  Come G (seen.push j) out' (over || !fitB q.2.sum) := by
 refine ⟨?_, fun i hi => ?_, hs, fun p => ?_, ?_, by have := h.len; rw [Array.size_push]; omega⟩
 ·rw [Array.toList_push]
  exact List.nodup_append.2 ⟨h.nodup, by simp, fun a ha b hb e => by
   simp only [List.mem_singleton] at hb
   subst hb; subst e
   exact hj ha⟩
 ·rw [Array.toList_push, List.mem_append, List.mem_singleton] at hi
  rcases hi with hi | rfl
  ·exact h.lt i hi
  ·exact (List.getElem?_eq_some_iff.1 hq).1
 ·rw [hm, h.mem, Array.toList_push]
  constructor
  ·rintro (rfl | ⟨i, q', hi, hq', rfl⟩)
   ·exact ⟨j, q, by simp, hq, rfl⟩
   ·exact ⟨i, q', by simp [hi], hq', rfl⟩
  ·rintro ⟨i, q', hi, hq', rfl⟩
   rcases List.mem_append.1 hi with hi | hi
   ·exact .inr ⟨i, q', hi, hq', rfl⟩
   ·simp only [List.mem_singleton] at hi
    subst hi
    obtain rfl : q = q' := Option.some.inj (hq.symm.trans hq')
    exact .inl rfl
 ·rw [Bool.or_eq_true, h.ov, Array.toList_push]
  constructor
  ·rintro (⟨i, q', hi, hq', e⟩ | e)
   ·exact ⟨i, q', by simp [hi], hq', e⟩
   ·exact ⟨j, q, by simp, hq, by simpa using e⟩
  ·rintro ⟨i, q', hi, hq', e⟩
   rcases List.mem_append.1 hi with hi | hi
   ·exact .inl ⟨i, q', hi, hq', e⟩
   ·simp only [List.mem_singleton] at hi
    subst hi
    obtain rfl : q = q' := Option.some.inj (hq.symm.trans hq')
    exact .inr (by simp [e])
theorem addG_le (k : K2) (x : Int) : ∀ G : List (K2 × List Int), (addG k x G).length ≤ G.length + 1
 | [] => Nat.le_refl _
 | q :: r => by
  unfold addG
  split
  ·simp
  ·have := addG_le k x r
   simp only [List.length_cons]
   omega
theorem grpOf_le (l : List S34) : (grpOf l).length ≤ l.length := by
 have gen : ∀ (l : List S34) (G : List (K2 × List Int)), (l.foldl (fun G c => addG (cpl c) c.f2 G) G).length ≤ G.length + l.length := by
  intro l
  induction l with
  | nil => intro G; exact Nat.le_refl _
  | cons c r ih =>
   intro G
   have h1 := ih (addG (cpl c) c.f2 G)
   have h2 := addG_le (cpl c) c.f2 G
   simp only [List.foldl_cons, List.length_cons]
   omega
 simpa [grpOf] using gen l []
/-- A slice of pairs, over a world in which the iterator alone has turned. -/
theorem R_iter {W W' : World} {r base s c : Nat} {m : Option Nat} {sn : Array Nat} {v : Value} {xs : List S89} (h : Kd.R k89 89 W base (fun _ => True) v xs) (hr : W.heap[r]? = some (.mapIter m s sn c)) (hk : ∀ x, x < W.heap.size → x ≠ r → W'.heap[x]? = W.heap[x]?) : Kd.R k89 89 W' base (fun _ => True) v xs := by
 have h1 := Kd.R_mono (Kd.R_tight rfl h) (ok' := fun x => v.ownBlock = some x) (fun x hx => hx.symm)
 exact Kd.R_mono (Kd.R_step h1 (fun x hx hlt => hk x hlt (fun e => by
  subst e
  obtain ⟨cs, hc⟩ := Kd.R_typed h _ hx
  rw [hr] at hc
  cases hc))) (fun _ _ => trivial)
/-- The round's step: the iterator's block alone turns. -/
theorem next_round {w : World} {r b : Nat} {gs : List (K2 × Value)} {G : List (K2 × List Int)} {seen : Array Nat} (hr : w.heap[r]? = some (.mapIter (some b) gs.length seen gs.length)) (hG : Grps w b gs G) :
  ((∀ j < G.length, j ∈ seen.toList) ∧ (Instr.next (.pointer (some ⟨r, 0, none⟩)) false 0).run Try.prog w = .ok (.tuple #[.bool false]) w) ∨
  ∃ (j : Nat) (ka kb : ByteArray) (v : Value) (q : K2 × List Int) (W1 : World), j ∉ seen.toList ∧ gs[j]? = some ((ka, kb), v) ∧ G[j]? = some q ∧ (Instr.next (.pointer (some ⟨r, 0, none⟩)) false 0).run Try.prog w = .ok (.tuple #[.bool true, .agg #[.string ka, .string kb], v]) W1 ∧
   (Instr.entry (.pointer (some ⟨r, 0, none⟩))).run Try.prog W1 = .ok (.tuple #[.agg #[.string ka, .string kb], v]) W1 ∧ W1.heap[r]? = some (.mapIter (some b) gs.length (seen.push j) gs.length) ∧ Grps W1 b gs G ∧ (∀ x, x < w.heap.size → x ≠ r → W1.heap[x]? = w.heap[x]?) ∧ w.heap.size ≤ W1.heap.size ∧ w.grownBy W1 (some r) := by
 have hold : ∀ x ∈ (esOf gs).toList, x.born < gs.length := fun x hx => by
  obtain ⟨j, p, hp, rfl⟩ := esOf_mem hx
  exact (List.getElem?_eq_some_iff.1 hp).1
 rcases run_next_at (P := Try.prog) w 0 r b gs.length gs.length seen (esOf gs) gs.length hr hG.map hold (Nat.le_refl _) with ⟨h0, hnx⟩ | ⟨e, he, w1, hw1, hnx⟩
 ·left
  refine ⟨fun j hj => ?_, hnx⟩
  have hjl : j < gs.length := by rw [hG.len]; exact hj
  have hm : (⟨keyV gs[j].1.1 gs[j].1.2, gs[j].2, j⟩ : MapEntry) ∈ (esOf gs).toList := List.mem_of_getElem? (i := j) (by rw [esOf_get, List.getElem?_eq_getElem hjl]; rfl)
  have he : leftOf (esOf gs) seen = #[] := Array.eq_empty_of_size_eq_zero h0
  unfold leftOf at he
  rw [Array.filter_eq_empty_iff] at he
  have := he _ (by simpa using hm)
  simpa using this
 ·right
  unfold leftOf at he
  have he2 : e ∈ (esOf gs).toList ∧ e.born ∉ seen.toList := by simpa using he
  obtain ⟨j, ⟨⟨ka, kb⟩, v⟩, hp, rfl⟩ := esOf_mem he2.1
  have hjl := (List.getElem?_eq_some_iff.1 hp).1
  obtain ⟨q, hq⟩ : ∃ q, G[j]? = some q := ⟨G[j]'(by have := hG.len; omega), List.getElem?_eq_getElem _⟩
  have hg0 : w.grownBy w1 none := by
   rcases hw1 with rfl | rfl
   ·exact ⟨rfl, rfl, rfl, Nat.le_refl _, fun _ _ _ => rfl⟩
   ·exact ⟨rfl, rfl, rfl, Nat.le_refl _, fun _ _ _ => rfl⟩
  have hr1 : w1.heap[r]? = some (.mapIter (some b) gs.length seen gs.length) := by rcases hw1 with rfl | rfl <;> exact hr
  have hrl : r < w1.heap.size := (Array.getElem?_eq_some_iff.1 hr1).1
  have hG1 : Grps w1 b gs G := hG.grown hg0
  have hrb : r ≠ b := fun e => by
   subst e
   rw [hG1.map] at hr1
   cases hr1
  have hg1 := grown_setBlock w1 r (.mapIter (some b) gs.length (seen.push j) gs.length)
  have hG2 : Grps (setBlock w1 r (.mapIter (some b) gs.length (seen.push j) gs.length)) b gs G := by
   refine ⟨(hg1.block b hG1.lt (fun e => hrb (Option.some.inj e).symm)).trans hG1.map, hG1.len, hG1.key, fun i p q' h1 h2 => ?_, hG1.apart, hG1.diff, hG1.siz⟩
   have hro := hG1.row i p q' h1 h2
   refine hro.kept hg1 ?_
   cases hv : p.2.ownBlock with
   | none => exact .inl rfl
   | some g =>
    right
    intro e
    have e := Option.some.inj e
    subst e
    have := Kd.R_typed (R_ints hro) g hv
    obtain ⟨cs, hc⟩ := this
    rw [hr1] at hc
    cases hc
  refine ⟨j, ka, kb, v, q, _, he2.2, hp, hq, hnx, ?_, heap_setBlock hrl _, hG2, fun x hx hne => ?_, ?_, ?_⟩
  ·exact run_entry_at _ r b gs.length seen (esOf gs) gs.length _ (heap_setBlock hrl _) hG2.map he2.1 (esOf_born gs)
  ·exact (hg1.block x (Nat.lt_of_lt_of_le hx hg0.size) (fun e => hne (Option.some.inj e))).trans (hg0.block x hx (by simp))
  ·rw [size_setBlock]; exact hg0.size
  ·exact World.grownBy.trans ⟨hg0.os, hg0.tape, hg0.output, hg0.size, fun i hi _ => hg0.block i hi (by simp)⟩ hg1
set_option maxHeartbeats 4000000 in
set_option maxRecDepth 100000 in
theorem pairs_calls (A : Option Addr) (c : Nat) (l : List S34) (w : World) (h : Kd.C k34 w A l.length l) (hc : l.length ≤ c) (hl : l.length ≤ 1000000) (hi : ∀ x ∈ l, i64ok x.f2) (hsz : ∀ x ∈ l, x.f0.f0.size ≤ maxLen ∧ x.f0.f3.size ≤ maxLen) :
  Calls Try.prog 75 #[.slice A l.length c] w fun e w' => ∃ v, e = .returned (.tuple #[v, .int .i64 (prK l).2]) ∧ Kd.R k89 89 w' w.heap.size (fun _ => True) v (prK l).1 ∧ Below w.heap.size w w' := by
 have HC := Aside0.mk h
 have HI := Aside0.mk hi
 have HSZ := Aside0.mk hsz
 obtain ⟨i0, hi0, hz0, hz1, hz2⟩ := info_parts info3
 clear h hi hsz
 go_enter Try.func75, Try.ntmps75
 have hmm := @run_makeMap Try.prog
 go_upto_region 2 with (fail)
 clear hmm
 refine with_world (P := fun x => Code.wp _ _ _ _ x) _ ?_
 intro w1 hw1
 have HM1 := Aside0.mk (show Grps w1 w.heap.size [] (grpOf (l.take 0)) from by
  rw [hw1]
  exact ⟨blk_new _ _, rfl, fun j p q h1 _ => by simp at h1, fun j p q h1 _ => by simp at h1, fun i j p q _ h1 _ => by simp at h1, fun i j p q h1 _ => by simp at h1, fun p hp => by simp at hp⟩)
 have HB1 := Aside0.mk (show Below w.heap.size w w1 from by rw [hw1]; exact below_alloc (Below.refl _ _) _)
 clear hw1
 obtain ⟨b, hb⟩ : ∃ b, w.heap.size = b := ⟨_, rfl⟩
 have HBS := Aside0.mk hb
 rw [hb] at HM1 HB1 ⊢
 clear hb
 go_wp2
 go_loopw [6, 7, 17, 18, 19, 20, 21, 22, 23, 24, 25, 26, 27, 28, 29, 30, 31, 32, 33] (fun _ _ v17 _ _ _ _ _ _ _ _ _ _ _ _ _ _ _ _ wr => ∃ (k : Nat) (gs : List (K2 × Value)), k ≤ l.length ∧ v17 = .int .i64 k ∧ Aside0 (Grps wr b gs (grpOf (l.take k))) ∧ Aside0 (Below b w wr)) (fun _ _ v17 _ _ _ _ _ _ _ _ _ _ _ _ _ _ _ _ _ => l.length - (intOf v17).toNat)
 case atStart => exact ⟨0, [], Nat.zero_le _, rfl, HM1, HB1⟩
 case round =>
  clear HM1 HB1
  obtain ⟨k, gs, hk, rfl, HM, HB⟩ := hrel
  by_cases hlt : k < l.length
  ·have hbw := HBS.out
   have d1 : decide ((k : Int) < (l.length : Int)) = true := decide_eq_true (by omega)
   have d2 : decide (k < l.length) = true := decide_eq_true hlt
   have p0 : (0 : Int) ≤ (k : Int) := by omega
   have p1 : (k : Int) < (l.length : Int) := by omega
   obtain ⟨ad, e, q0, q1, q2, q3, q4, q5, q6⟩ := at_T34 (Kd.C_below HC.out (by rw [HBS.out]; exact HB.out)) (k : Int) (by omega) (by omega)
   rw [Int.toNat_natCast] at q0 q1 q2 q3 q4 q5 q6
   have hx0 : rd_T34 l (k : Int) = l[k] := by simp [rd_T34, hlt]
   obtain ⟨x, hx⟩ : ∃ x, rd_T34 l (k : Int) = x := ⟨_, rfl⟩
   rw [hx] at q0 q1 q2 q3 q4 q5 q6 hx0
   have HSX := Aside0.mk (HSZ.out x (by rw [hx0]; exact List.getElem_mem hlt))
   have HTK := Aside0.mk (show grpOf (l.take (k + 1)) = addG (cpl x) x.f2 (grpOf (l.take k)) from by rw [hx0]; exact grpOf_take l hlt)
   have HLN := Aside0.mk (show ∀ q ∈ grpOf (l.take k), q.2.length ≤ 1000000 from fun q hq => by
    have := (gok (l.take k)).len q hq
    rw [List.length_map, List.length_take] at this
    omega)
   subst e
   clear hx hx0 hbw
   go_upto_region 5 with (fail)
   refine with_world (P := fun x => Code.wp _ _ _ _ x) _ ?_
   intro w2 hw2
   obtain ⟨g, hg⟩ : ∃ g, wr.heap.size = g := ⟨_, rfl⟩
   have BX := Aside0.mk (show w2.heap[g]? = some (.cells #[.string x.f0.f0, .string x.f0.f1, .string x.f0.f2, .string x.f0.f3, .string x.f0.f4, .int .i64 x.f1, .int .i64 x.f2] 34 (0, 0)) from by rw [hw2, ← hg]; exact blk_new wr _)
   have HB2 := Aside0.mk (show Below b w w2 from by have h9 := HB.out; rw [← HBS.out] at h9 ⊢; rw [hw2]; exact below_alloc h9 _)
   have HM2 := Aside0.mk (show Grps w2 b gs (grpOf (l.take k)) from by rw [hw2]; exact HM.out.grown (grown_alloc _ _ _))
   rw [hg]
   clear hw2 hg q0 q1 q2 q3 q4 q5 q6 HB HM
   have c0 : w2.cell? ⟨g, 0, none⟩ = some (.string x.f0.f0) := (blk_cell BX.out 0).trans rfl
   have c1 : w2.cell? ⟨g, 1, none⟩ = some (.string x.f0.f1) := (blk_cell BX.out 1).trans rfl
   have c2 : w2.cell? ⟨g, 2, none⟩ = some (.string x.f0.f2) := (blk_cell BX.out 2).trans rfl
   have c3 : w2.cell? ⟨g, 3, none⟩ = some (.string x.f0.f3) := (blk_cell BX.out 3).trans rfl
   have c4 : w2.cell? ⟨g, 4, none⟩ = some (.string x.f0.f4) := (blk_cell BX.out 4).trans rfl
   have HCP := Aside0.mk (couple_pure x)
   have HSC := Aside0.mk (show (cpl x).1.size ≤ maxLen ∧ (cpl x).2.size ≤ maxLen from by
    unfold cpl
    split
    ·exact HSX.out
    ·exact ⟨HSX.out.2, HSX.out.1⟩)
   obtain ⟨cp, hcp⟩ : ∃ cp, cpl x = cp := ⟨_, rfl⟩
   rw [hcp] at HCP HSC HTK
   clear hcp
   obtain ⟨ka, kb⟩ := cp
   go_upto_region 6 with (first | (go_at_call 87; (refine (interco_coupleOf.calls x.f0.f0 x.f0.f1 x.f0.f2 x.f0.f3 x.f0.f4 ka kb _ HCP.out).mono ?_); rintro e_ w3 ⟨rfl, hb_⟩; have HB3 := Aside0.mk hb_; clear hb_))
   refine with_world (P := fun x => Code.wp _ _ _ _ x) _ ?_
   intro w4 hw4
   obtain ⟨g2, hg2⟩ : ∃ g2, w3.heap.size = g2 := ⟨_, rfl⟩
   have hlt4 : Below w2.heap.size w2 w4 := by rw [hw4]; exact below_alloc HB3.out _
   have BX4 := Aside0.mk (blk_below BX.out hlt4)
   have BK := Aside0.mk (show w4.heap[g2]? = some (.cells #[.string ka, .string kb] 103 (0, 0)) from by rw [hw4, ← hg2]; exact blk_new w3 _)
   have HB4 := Aside0.mk (below_then HB2.out (by have := HB2.out.size; have := HBS.out; omega) hlt4)
   have HM4 := Aside0.mk (HM2.out.below hlt4)
   rw [hg2]
   clear hw4 hg2 hlt4 c0 c1 c2 c3 c4 HB2 HM2 BX HB3
   have c6 : w4.cell? ⟨g, 6, none⟩ = some (.int .i64 x.f2) := (blk_cell BX4.out 6).trans rfl
   have e0 : w4.cell? ⟨g2, 0, none⟩ = some (.string ka) := (blk_cell BK.out 0).trans rfl
   have e1 : w4.cell? ⟨g2, 1, none⟩ = some (.string kb) := (blk_cell BK.out 1).trans rfl
   obtain ⟨v, st, W1, xs, hme, hrow, hxl, hbs, hcell, hB1, hend⟩ := grp_step (HM4.out.grown (grown_alloc w4 (.cells #[.int .i64 x.f2] 3) none)) HSC.out.1 HSC.out.2 x.f2 HLN.out
   unfold keyV at hme
   have HROW := Aside0.mk hrow
   have HXL := Aside0.mk hxl
   have HBSZ := Aside0.mk hbs
   have HCL := Aside0.mk (one_cells w4 (.int .i64 x.f2) 3 b HM4.out.lt hcell)
   have HEND := Aside0.mk hend
   have HBW := Aside0.mk hB1
   clear hrow hxl hbs hcell hB1 hend
   go_wp2_with (first | ((with_reducible refine gate_builtin (b := .append) (xs := #[.tmp 26, .tmp 29]) rfl ?_); at_builtin; refine wpList_append_own_at W1 rfl (.tmp 26) (.tmp 29) 67 rfl (b + 1) 3 i0 (.int .i64 0) 1 8 Try.underlying67 hi0 hz0 hz1 hz2 rfl (by decide) v xs.length (xs.map (Value.int .i64)) (by first | rfl | simp [Act.eval, Act.put]) HROW.out ⟨w4.heap.size, 0, none⟩ 1 1 [.int .i64 x.f2] (by first | rfl | simp [Act.eval, Act.put]) rfl HCL.out (by simp [Value.oneCell']) (by have := HXL.out; unfold maxLen; omega) (by have := HXL.out; omega) HBSZ.out ?_; intro v2 W2 ho_ hg_ _ hat_; obtain ⟨W3, gs', hes0, hG_, hB_⟩ := HEND.out v2 W2 ho_ hg_ hat_; have hes : (Instr.entryStore 101 (.map (some b)) (.int .i64 (st : Int)) v2).run Try.prog W2 = .ok () W3 := hes0; clear hes0; have HG3 := Aside0.mk hG_; have HB5 := Aside0.mk hB_; clear ho_ hg_ hat_ hG_ hB_))
   go_roundw
   case rel =>
    refine ⟨k + 1, gs', by omega, by go_num, ⟨?_⟩, ⟨?_⟩⟩
    ·rw [HTK.out]; exact HG3.out
    ·have h9 := HB4.out
     have h8 := HB5.out
     have e9 := HBS.out
     refine ⟨h8.os.trans h9.os, h8.tape.trans h9.tape, h8.output.trans h9.output, Nat.le_trans h9.size (Nat.le_trans (below_alloc (Below.refl w4.heap.size w4) _).size h8.size), fun i hi => ?_⟩
     have hi4 : i < w4.heap.size := Nat.lt_of_lt_of_le (by omega) h9.size
     exact (h8.block i hi).trans ((Below.heap_alloc w4 _ i hi4).trans (h9.block i hi))
   case measure => simp [intOf]; omega
  ·obtain rfl : k = l.length := by omega
   have d1 : decide ((l.length : Int) < (l.length : Int)) = false := decide_eq_false (by omega)
   have HM5 := Aside0.mk (show Grps wr b gs (grpOf l) from by have h9 := HM.out; rw [List.take_length] at h9; exact h9)
   clear HM
   have hrg := run_range_map (P := Try.prog) wr 101 103 67 b _ _ Try.underlying101 HM5.out.map
   go_upto_region 11 with (fail)
   clear hrg
   refine with_world (P := fun x => Code.wp _ _ _ _ x) _ ?_
   intro w6 hw6
   obtain ⟨r, hr⟩ : ∃ r, wr.heap.size = r := ⟨_, rfl⟩
   have HR6 := Aside0.mk (show w6.heap[r]? = some (.mapIter (some b) gs.length #[] gs.length) from by rw [hw6, ← hr]; exact blk_new wr _)
   have HM6 := Aside0.mk (show Grps w6 b gs (grpOf l) from by rw [hw6]; exact HM5.out.grown (grown_alloc _ _ _))
   have HB6 := Aside0.mk (show Below b w w6 from by have h9 := HB.out; rw [← HBS.out] at h9 ⊢; rw [hw6]; exact below_alloc h9 _)
   have HRB := Aside0.mk (show b ≤ r from by rw [← hr]; have := HB.out.size; have := HBS.out; omega)
   rw [hr]
   clear hw6 hr HB HM5
   have HNG := Aside0.mk (show (grpOf l).length ≤ 1000000 from by
    have h9 : ∀ (l : List S34), (grpOf l).length ≤ l.length := grpOf_le
    have := h9 l
    omega)
   go_loopw [8, 9, 10, 11, 12, 13, 36, 37, 38, 39, 40, 41, 42, 43, 44, 45, 46, 47, 48, 49, 50, 51, 52, 53, 54, 55, 56, 57, 58, 59, 60, 61, 62, 63, 64, 65, 66] (fun v8 v9 _ _ _ _ _ _ _ _ _ _ _ _ _ _ _ _ _ _ _ _ _ _ _ _ _ _ _ _ _ _ _ _ _ _ _ wx => ∃ (seen : Array Nat) (out : List S89) (over : Bool), v9 = .bool over ∧ Aside0 (wx.heap[r]? = some (.mapIter (some b) gs.length seen gs.length)) ∧ Aside0 (Grps wx b gs (grpOf l)) ∧ Aside0 (Kd.R k89 89 wx b (fun _ => True) v8 out) ∧ Aside0 (Below b w wx) ∧ Aside0 (Come (grpOf l) seen out over)) (fun _ _ _ _ _ _ _ _ _ _ _ _ _ _ _ _ _ _ _ _ _ _ _ _ _ _ _ _ _ _ _ _ _ _ _ _ _ wx => (grpOf l).length - iterN wx r)
   case atStart => exact ⟨#[], [], false, rfl, HR6, HM6, ⟨Kd.R_nil _ _ _ _ _⟩, HB6, ⟨Come.none _⟩⟩
   case round =>
    clear HR6 HM6 HB6
    rename World => wo
    obtain ⟨seen, out, over, rfl, HR, HM, HV, HB, HCM⟩ := hrel
    obtain ⟨A8, c8, e8⟩ := Kd.R_slice HV.out
    subst e8
    rcases next_round HR.out HM.out with ⟨hall, hnx⟩ | ⟨j, ka, kb, v, q, W1, hj, hgj, hq, hnx, hen, hR1, hG1, hkeep, hsz1, hgr⟩
    ·have he := pr_end l out over HCM.out.srt (fun p => by
      rw [HCM.out.mem]
      constructor
      ·rintro ⟨j, q, _, hq, rfl⟩
       exact ⟨q, List.mem_of_getElem? hq, rfl⟩
      ·rintro ⟨q, hq, rfl⟩
       obtain ⟨j, hj⟩ := List.mem_iff_getElem?.1 hq
       exact ⟨j, q, hall j (List.getElem?_eq_some_iff.1 hj).1, hj, rfl⟩) (by
      rw [HCM.out.ov]
      constructor
      ·rintro ⟨j, q, _, hq, e⟩
       exact ⟨q, List.mem_of_getElem? hq, e⟩
      ·rintro ⟨q, hq, e⟩
       obtain ⟨j, hj⟩ := List.mem_iff_getElem?.1 hq
       exact ⟨j, q, hall j (List.getElem?_eq_some_iff.1 hj).1, hj, e⟩)
     have HE := Aside0.mk he
     clear he hall
     cases over
     ·go_wp2
      go_ret2
      have he := HE.out
      rw [if_neg (by decide)] at he
      rw [← he]
      exact ⟨_, rfl, by rw [HBS.out]; exact HV.out, by rw [HBS.out]; exact HB.out⟩
     ·go_wp2
      go_ret2
      have he := HE.out
      first | rw [if_pos trivial] at he | rw [if_pos rfl] at he
      rw [← he]
      exact ⟨_, rfl, Kd.R_nil _ _ _ _ _, by rw [HBS.out]; exact HB.out⟩
    ·obtain ⟨qk, xs⟩ := q
     have hkey : (ka, kb) = qk := hG1.key j _ _ hgj hq
     subst hkey
     have hrow := hG1.row j _ _ hgj hq
     have hRI := R_ints hrow
     obtain ⟨Av, cv, ev⟩ := Kd.R_slice hRI
     simp only at ev
     subst ev
     have HCV := Aside0.mk (Kd.R_reads' hRI).2.2
     have HCC := Aside0.mk (Kd.R_reads' hRI).2.1
     have hqm := List.mem_of_getElem? hq
     have hxl : xs.length ≤ 1000000 := by
      have := (gok l).len _ hqm
      rw [List.length_map] at this
      simp only at this
      omega
     have hxi : ∀ x ∈ xs, i64ok x := fun x hx => by
      obtain ⟨c1, hc1, e⟩ := (gok l).ints _ hqm x hx
      obtain ⟨c2, hc2, rfl⟩ := List.mem_map.1 hc1
      rw [e]
      exact HI.out c2 hc2
     obtain ⟨sm, hsm⟩ : ∃ sm, (if i64ok xs.sum then xs.sum else 0) = sm := ⟨_, rfl⟩
     have HSUM := Aside0.mk (show num_Sum.f xs = some (sm, decide (i64ok xs.sum)) from by
      unfold num_Sum.f
      rw [if_pos hxl, if_pos hxi, ← hsm]
      by_cases h9 : i64ok xs.sum
      ·rw [if_pos h9, if_pos h9, decide_eq_true h9]
      ·rw [if_neg h9, if_neg h9, decide_eq_false h9])
     obtain ⟨kr, kk, bb, hs8, hk8, hsrt, hmem⟩ := search_ok out (pairOf ((ka, kb), xs)) (by have := HCM.out.len; have := HCM.out.size; have := HNG.out; omega) HCM.out.srt (HCM.out.new (gok l).nodup hq hj)
     have hpo : pairOf ((ka, kb), xs) = ⟨ka, kb, sm⟩ := by rw [← hsm]; rfl
     have hcome0 := HCM.out.step hq hj hsrt hmem (by simp; omega)
     rw [hpo] at hs8 hcome0
     have HCOME := Aside0.mk hcome0
     have HS8 := Aside0.mk (show bin_search.f kr out ka kb sm = some ((kk : Int), bb) from hs8)
     have HK8 := Aside0.mk hk8
     have HSM := Aside0.mk hsm
     have HL8' := Aside0.mk (show out.length ≤ 1000000 from by have := HCM.out.len; have := HCM.out.size; have := HNG.out; omega)
     have HSZS := Aside0.mk (show seen.size < (grpOf l).length from by
      have h1 := HCM.out.size
      rcases Nat.lt_or_ge seen.size (grpOf l).length with h2 | h2
      ·exact h2
      ·exfalso
       have h3 := nodup_le (grpOf l).length (seen.toList ++ [j]) (List.nodup_append.2 ⟨HCM.out.nodup, by simp, fun a ha b hb e => by
        simp only [List.mem_singleton] at hb
        subst hb; subst e
        exact hj ha⟩) (fun i hi => by
        rcases List.mem_append.1 hi with hi | hi
        ·exact HCM.out.lt i hi
        ·simp only [List.mem_singleton] at hi
         subst hi
         exact (List.getElem?_eq_some_iff.1 hq).1)
       simp at h3
       omega)
     have HV1 := Aside0.mk (R_iter HV.out HR.out hkeep)
     have HB1 := Aside0.mk (show Below b w W1 from ⟨hgr.os.trans HB.out.os, hgr.tape.trans HB.out.tape, hgr.output.trans HB.out.output, Nat.le_trans HB.out.size hsz1, fun x hx => by
      have h9 := HBS.out
      have hxo : x < wo.heap.size := Nat.lt_of_lt_of_le (by omega) HB.out.size
      have hxr : x ≠ r := fun e => by have := HRB.out; omega
      exact (hkeep x hxo hxr).trans (HB.out.block x hx)⟩)
     have HR1 := Aside0.mk hR1
     have HG1 := Aside0.mk hG1
     clear hs8 hk8 hsrt hmem hpo hcome0 hsm hxl hxi hqm hrow hRI hkeep hsz1 hgr hR1 hG1 hgj hq hj
     go_upto_region 13 with (fail)
     clear hnx hen
     refine with_world (P := fun x => Code.wp _ _ _ _ x) _ ?_
     intro w2 hw2
     obtain ⟨g2, hg2⟩ : ∃ g2, W1.heap.size = g2 := ⟨_, rfl⟩
     have hlt2 : Below W1.heap.size W1 w2 := by rw [hw2]; exact below_alloc (Below.refl _ _) _
     have BK := Aside0.mk (show w2.heap[g2]? = some (.cells #[.string ka, .string kb] 103 (0, 0)) from by rw [hw2, ← hg2]; exact blk_new W1 _)
     have HR2 := Aside0.mk ((hlt2.block r (blk_lt HR1.out)).trans HR1.out)
     have HG2 := Aside0.mk (HG1.out.below hlt2)
     have HV2 := Aside0.mk (Kd.R_below HV1.out hlt2)
     have HB2 := Aside0.mk (below_then HB1.out (by have := HB1.out.size; have := HBS.out; omega) hlt2)
     have HCV2 := Aside0.mk (Kd.C_below HCV.out hlt2)
     rw [hg2]
     clear hw2 hg2 hlt2 HR1 HG1 HV1 HB1 HCV
     go_upto_region 14 with (first | (go_at_call 81; (refine (num_Sum.calls Av cv xs sm (decide (i64ok xs.sum)) _ HCV2.out HCC.out HSUM.out).mono ?_); rintro e_ w3 ⟨rfl, hdr_⟩; have HD := Aside0.mk hdr_.below; clear hdr_))
     have BK3 := Aside0.mk (blk_below BK.out HD.out)
     have HR3 := Aside0.mk ((HD.out.block r (blk_lt HR2.out)).trans HR2.out)
     have HG3 := Aside0.mk (HG2.out.below HD.out)
     have HV3 := Aside0.mk (Kd.R_below HV2.out HD.out)
     have HB3 := Aside0.mk (below_then HB2.out (by have := HB2.out.size; have := HBS.out; omega) HD.out)
     have HC8 := Aside0.mk (Kd.R_reads' HV3.out).2.2
     have HL8 := Aside0.mk (Kd.R_reads' HV3.out).2.1
     have HO8 := HL8'
     have e0 : w3.cell? ⟨g2, 0, none⟩ = some (.string ka) := (blk_cell BK3.out 0).trans rfl
     have e1 : w3.cell? ⟨g2, 1, none⟩ = some (.string kb) := (blk_cell BK3.out 1).trans rfl
     clear BK HR2 HG2 HV2 HB2 HCV2
     have hcome := HCOME.out
     cases over
     ·by_cases hio : i64ok xs.sum
      ·have hs9 : xs.sum = sm := by have := HSM.out; rw [if_pos hio] at this; exact this
       have d0 : decide (i64ok xs.sum) = true := decide_eq_true hio
       rw [d0]
       have HIO := Aside0.mk hio
       clear hio
       by_cases h1 : 1000000000000000 < sm
       ·have d1 : decide (1000000000000000 < sm) = true := decide_eq_true h1
        have hov : (false || !fitB xs.sum) = true := by
         rw [hs9]; unfold fitB; rw [decide_eq_false (show ¬ sm ≤ 1000000000000000 by omega), Bool.and_false]; rfl
        rw [hov] at hcome
        clear hs9 hov d0
        go_wp2_with (first | (go_at_call 88; (refine (insert_calls A8 c8 out ka kb sm kk kr bb _ HC8.out HL8.out HO8.out HK8.out HS8.out).mono ?_); rintro e_ w5 ⟨v5, rfl, hR5_, hB5_⟩; have HR5 := Aside0.mk hR5_; have HB5 := Aside0.mk hB5_; clear hR5_ hB5_))
        go_roundw
        case rel => exact ⟨seen.push j, out.take kk ++ [⟨ka, kb, sm⟩] ++ out.drop kk, true, rfl, ⟨(HB5.out.block r (blk_lt HR3.out)).trans HR3.out⟩, ⟨HG3.out.below HB5.out⟩, ⟨Kd.R_lower HR5.out (by have := HB3.out.size; have := HBS.out; omega)⟩, ⟨below_then HB3.out (by have := HB3.out.size; have := HBS.out; omega) HB5.out⟩, ⟨hcome⟩⟩
        case measure =>
         rw [iterN_eq ((HB5.out.block r (blk_lt HR3.out)).trans HR3.out), iterN_eq HR.out, Array.size_push]
         have := HSZS.out
         omega
       ·have d1 : decide (1000000000000000 < sm) = false := decide_eq_false h1
        by_cases h2 : sm < -1000000000000000
        ·have d2 : decide (sm < -1000000000000000) = true := decide_eq_true h2
         have hov : (false || !fitB xs.sum) = true := by
          rw [hs9]; unfold fitB; rw [decide_eq_false (show ¬ -1000000000000000 ≤ sm by omega), Bool.false_and]; rfl
         rw [hov] at hcome
         clear hs9 hov d0
         go_wp2_with (first | (go_at_call 88; (refine (insert_calls A8 c8 out ka kb sm kk kr bb _ HC8.out HL8.out HO8.out HK8.out HS8.out).mono ?_); rintro e_ w5 ⟨v5, rfl, hR5_, hB5_⟩; have HR5 := Aside0.mk hR5_; have HB5 := Aside0.mk hB5_; clear hR5_ hB5_))
         go_roundw
         case rel => exact ⟨seen.push j, out.take kk ++ [⟨ka, kb, sm⟩] ++ out.drop kk, true, rfl, ⟨(HB5.out.block r (blk_lt HR3.out)).trans HR3.out⟩, ⟨HG3.out.below HB5.out⟩, ⟨Kd.R_lower HR5.out (by have := HB3.out.size; have := HBS.out; omega)⟩, ⟨below_then HB3.out (by have := HB3.out.size; have := HBS.out; omega) HB5.out⟩, ⟨hcome⟩⟩
         case measure =>
          rw [iterN_eq ((HB5.out.block r (blk_lt HR3.out)).trans HR3.out), iterN_eq HR.out, Array.size_push]
          have := HSZS.out
          omega
        ·have d2 : decide (sm < -1000000000000000) = false := decide_eq_false h2
         have hov : (false || !fitB xs.sum) = false := by
          rw [hs9]; unfold fitB; rw [decide_eq_true (show -1000000000000000 ≤ sm by omega), decide_eq_true (show sm ≤ 1000000000000000 by omega)]; rfl
         rw [hov] at hcome
         clear hs9 hov d0
         go_wp2_with (first | (go_at_call 88; (refine (insert_calls A8 c8 out ka kb sm kk kr bb _ HC8.out HL8.out HO8.out HK8.out HS8.out).mono ?_); rintro e_ w5 ⟨v5, rfl, hR5_, hB5_⟩; have HR5 := Aside0.mk hR5_; have HB5 := Aside0.mk hB5_; clear hR5_ hB5_))
         go_roundw
         case rel => exact ⟨seen.push j, out.take kk ++ [⟨ka, kb, sm⟩] ++ out.drop kk, false, rfl, ⟨(HB5.out.block r (blk_lt HR3.out)).trans HR3.out⟩, ⟨HG3.out.below HB5.out⟩, ⟨Kd.R_lower HR5.out (by have := HB3.out.size; have := HBS.out; omega)⟩, ⟨below_then HB3.out (by have := HB3.out.size; have := HBS.out; omega) HB5.out⟩, ⟨hcome⟩⟩
         case measure =>
          rw [iterN_eq ((HB5.out.block r (blk_lt HR3.out)).trans HR3.out), iterN_eq HR.out, Array.size_push]
          have := HSZS.out
          omega
      ·have d0 : decide (i64ok xs.sum) = false := decide_eq_false hio
       rw [d0]
       have hov : (false || !fitB xs.sum) = true := by
        cases hf : fitB xs.sum with
        | false => rfl
        | true => exact absurd (fit_i64 hf) hio
       rw [hov] at hcome
       have HIO := Aside0.mk hio
       clear hio hov d0
       go_wp2_with (first | (go_at_call 88; (refine (insert_calls A8 c8 out ka kb sm kk kr bb _ HC8.out HL8.out HO8.out HK8.out HS8.out).mono ?_); rintro e_ w5 ⟨v5, rfl, hR5_, hB5_⟩; have HR5 := Aside0.mk hR5_; have HB5 := Aside0.mk hB5_; clear hR5_ hB5_))
       go_roundw
       case rel => exact ⟨seen.push j, out.take kk ++ [⟨ka, kb, sm⟩] ++ out.drop kk, true, rfl, ⟨(HB5.out.block r (blk_lt HR3.out)).trans HR3.out⟩, ⟨HG3.out.below HB5.out⟩, ⟨Kd.R_lower HR5.out (by have := HB3.out.size; have := HBS.out; omega)⟩, ⟨below_then HB3.out (by have := HB3.out.size; have := HBS.out; omega) HB5.out⟩, ⟨hcome⟩⟩
       case measure =>
        rw [iterN_eq ((HB5.out.block r (blk_lt HR3.out)).trans HR3.out), iterN_eq HR.out, Array.size_push]
        have := HSZS.out
        omega
     ·rw [Bool.true_or] at hcome
      go_wp2_with (first | (go_at_call 88; (refine (insert_calls A8 c8 out ka kb sm kk kr bb _ HC8.out HL8.out HO8.out HK8.out HS8.out).mono ?_); rintro e_ w5 ⟨v5, rfl, hR5_, hB5_⟩; have HR5 := Aside0.mk hR5_; have HB5 := Aside0.mk hB5_; clear hR5_ hB5_))
      go_roundw
      case rel => exact ⟨seen.push j, out.take kk ++ [⟨ka, kb, sm⟩] ++ out.drop kk, true, rfl, ⟨(HB5.out.block r (blk_lt HR3.out)).trans HR3.out⟩, ⟨HG3.out.below HB5.out⟩, ⟨Kd.R_lower HR5.out (by have := HB3.out.size; have := HBS.out; omega)⟩, ⟨below_then HB3.out (by have := HB3.out.size; have := HBS.out; omega) HB5.out⟩, ⟨hcome⟩⟩
      case measure =>
       rw [iterN_eq ((HB5.out.block r (blk_lt HR3.out)).trans HR3.out), iterN_eq HR.out, Array.size_push]
       have := HSZS.out
       omega
end Go.Proofs.Ytmflggbpiadkjaa.P
namespace Go.Proofs.Ytmflggbpiadkjaa.P
open Go.RowKit Go.Sort Go.Proofs.YtmflggbpiadkjaaW.PrintWords Go.Proofs.YtmflggbpiadkjaaW.PrintLast Go.Proofs.YtmflggbpiadkjaaW.PrintMore
set_option linter.unusedVariables false
def FitP (l : List S34) : Prop := l.length ≤ 1000000 ∧ (∀ x ∈ l, i64ok x.f2) ∧ ∀ x ∈ l, x.f0.f0.size ≤ maxLen ∧ x.f0.f3.size ≤ maxLen
instance (l : List S34) : Decidable (FitP l) := by unfold FitP; exact inferInstance
def interco_pairs.f (l0 : List S34) : Option (List S89 × Int) := if FitP l0 then some (prK l0) else none
theorem interco_pairs.calls (A0 : Option Addr) (c0 : Nat) (l0 : List (S34)) (r1 : List (S89)) (r2 : Int) (w : World) (hr0 : Kd.C k34 w A0 l0.length l0) (hc0 : l0.length ≤ c0) (h : interco_pairs.f l0 = some (r1, r2)) :
  Calls Try.prog 75 #[.slice A0 l0.length c0] w fun e w' => ∃ v0_ : Value, e = .returned (.tuple #[v0_, .int .i64 r2]) ∧ Kd.R k89 89 w' w.heap.size (fun _ => True) v0_ r1 ∧ Below w.heap.size w w' := by
 unfold interco_pairs.f at h
 by_cases hm : FitP l0
 ·rw [if_pos hm] at h
  have h2 : prK l0 = (r1, r2) := Option.some.inj h
  have h1 := pairs_calls A0 c0 l0 w hr0 hc0 hm.1 hm.2.1 hm.2.2
  rw [h2] at h1
  exact h1
 ·rw [if_neg hm] at h
  cases h
def money_Code.f (a0 : ByteArray) : Option Bool := if a0.size ≤ maxLen then some (monB a0) else none
theorem money_Code.calls (a0 : ByteArray) (r : Bool) (w : World) (h : money_Code.f a0 = some r) :
  Calls Try.prog 77 #[.string a0] w fun e w' => e = .returned (.bool r) ∧ Below w.heap.size w w' := by
 unfold money_Code.f at h
 by_cases hm : a0.size ≤ maxLen
 ·rw [if_pos hm] at h
  cases h
  exact money_calls a0 w hm
 ·rw [if_neg hm] at h
  cases h
end Go.Proofs.Ytmflggbpiadkjaa.P
namespace Go.Proofs.Ytmflggbpiadkjaa.P
open Go.RowKit Go.Sort Go.Proofs.YtmflggbpiadkjaaW.PrintWords Go.Proofs.YtmflggbpiadkjaaW.PrintLast Go.Proofs.YtmflggbpiadkjaaW.PrintMore
set_option linter.unusedVariables false
set_option linter.unusedSimpArgs false
theorem prK_len (l : List S34) : (prK l).1.length ≤ l.length := by
  unfold prK
  split
  · rw [List.length_map]
    have := keysK_le (l.map ck)
    rw [List.length_map] at this
    exact this
  · exact Nat.zero_le _
theorem pairs_len {l : List S34} {r : List S89} {e : Int} (h : interco_pairs.f l = some (r, e)) : l.length ≤ 1000000 ∧ r.length ≤ 1000000 := by
  unfold interco_pairs.f at h
  by_cases hm : FitP l
  · rw [if_pos hm] at h
    have h1 := prK_len l
    have h2 : prK l = (r, e) := Option.some.inj h
    rw [h2] at h1
    have := hm.1
    exact ⟨hm.1, Nat.le_trans h1 hm.1⟩
  · rw [if_neg hm] at h; cases h
theorem mk_event {o : Oper} {ops : Array Oper} {rest : List Oper} {a : Act} {Q : Exit → Act → World → Prop} {W : World} (hgd : o.guard = none) {N : Tmp} (_hd : o.dst = some N) (s : Operand) (hop : o.op = .makeSlice 22 (.const (.int .i64 0)) s) (c : Nat) {m : Int} (hs : a.eval s = .int .i64 m) (hm : m = (c : Int)) (hc : c ≤ 2000000) (base : Nat) (hb : base ≤ W.heap.size)
    (h : ∀ g w1, g = W.heap.size → w1.ownsRow base 34 7 (.slice (some ⟨g, 0, none⟩) 0 c) 0 [] → Below W.heap.size W w1 → wpList Try.prog ops Q rest (a.put o.dst (.slice (some ⟨g, 0, none⟩) 0 c)) w1) : wpList Try.prog ops Q (o :: rest) a W := by
  obtain ⟨i0, hi0, hz0, hz1, hz2⟩ := info_parts info34
  subst hm
  obtain ⟨w1, hr, ho, hg⟩ := run_make_own (P := Try.prog) W base 22 34 i0 _ 7 Try.underlying22 hi0 hz0 hz1 .i64 .i64 c (by rw [hz2]; omega) (by unfold maxLen; omega) hb
  refine Kd.event_run hgd ?_ (h W.heap.size w1 rfl ho ⟨hg.os, hg.tape, hg.output, hg.size, fun k hk => hg.block k hk (by simp)⟩)
  unfold execOp
  simp only [hop]
  rw [show a.eval (.const (.int .i64 0)) = .int .i64 0 from rfl, hs]
  simp [hr, Result.andThen]
theorem R_empty {W : World} {base g c : Nat} {ok : Nat → Prop} (h : W.ownsRow base 34 7 (.slice (some ⟨g, 0, none⟩) 0 c) 0 []) (hok : ok g) : Kd.R k34 34 W base ok (.slice (some ⟨g, 0, none⟩) 0 c) [] := by
  refine ⟨fun k hk => ?_, [], h, rfl, fun j p hj => by simp at hj⟩
  simp [Value.ownBlock] at hk
  subst hk
  exact hok
end Go.Proofs.Ytmflggbpiadkjaa.P
namespace Go.Proofs.Ytmflggbpiadkjaa.P
open Go.RowKit Go.Proofs.YtmflggbpiadkjaaW.PrintWords Go.Proofs.YtmflggbpiadkjaaW.PrintLast Go.Proofs.YtmflggbpiadkjaaW.PrintMore
attribute [local go_sem] max2_int min2_int max_two min_two max_three min_three max_four min_four   -- for this text's walks alone
set_option linter.unusedVariables false
set_option linter.unusedSimpArgs false
/-! ### interco_Inside: function 44 -/
def interco_Inside.l0 : Nat → List (S34) → List (S34) → List (S34) → Int → Int → List ByteArray → Option ((List (S34)) × (List (S34)))
 | 0, _, _, _, _, _, _ => none
 | k + 1, x4, x5, x11, x12, x13, mm => if x13 < x12 then (if 0 ≤ x13 then (if x13 < (x11.length : Int) then ((interco_inside.f mm ((rd_T34 x11 x13).f0.f0) ((rd_T34 x11 x13).f0.f1) ((rd_T34 x11 x13).f0.f2) ((rd_T34 x11 x13).f0.f3) ((rd_T34 x11 x13).f0.f4)).bind fun t549 => (if t549 = true then (if x4.length < 1466015503701 then (interco_Inside.l0 k (x4 ++ [(⟨(⟨(rd_T34 x11 x13).f0.f0, (rd_T34 x11 x13).f0.f1, (rd_T34 x11 x13).f0.f2, (rd_T34 x11 x13).f0.f3, (rd_T34 x11 x13).f0.f4⟩ : S32), (rd_T34 x11 x13).f1, (rd_T34 x11 x13).f2⟩ : S34)]) x5 x11 x12 (wrap64 (x13 + 1)) mm) else (none)) else (if x5.length < 1466015503701 then (interco_Inside.l0 k x4 (x5 ++ [(⟨(⟨(rd_T34 x11 x13).f0.f0, (rd_T34 x11 x13).f0.f1, (rd_T34 x11 x13).f0.f2, (rd_T34 x11 x13).f0.f3, (rd_T34 x11 x13).f0.f4⟩ : S32), (rd_T34 x11 x13).f1, (rd_T34 x11 x13).f2⟩ : S34)]) x11 x12 (wrap64 (x13 + 1)) mm) else (none)))) else (none)) else (none)) else (some (x4, x5))
def FitM (l0 : List S34) (l1 : List ByteArray) : Prop := l1.length ≤ 1000000 ∧ (∀ s ∈ l1, s.size ≤ maxLen) ∧ ∀ c ∈ l0, c.f0.f0.size ≤ maxLen ∧ c.f0.f3.size ≤ maxLen
instance (l0 : List S34) (l1 : List ByteArray) : Decidable (FitM l0 l1) := by unfold FitM; exact inferInstance
def interco_Inside.f (k : Nat) (l0 : List (S34)) (l1 : List ByteArray) : Option ((List (S34)) × (List (S34))) := if FitM l0 l1 then interco_Inside.l0 k ([] : List (S34)) ([] : List (S34)) l0 (l0.length : Int) 0 l1 else none
theorem interco_Inside.mono_l : ∀ k, (∀ y0 y1 y2 y3 y4 y5, LeO (interco_Inside.l0 k y0 y1 y2 y3 y4 y5) (interco_Inside.l0 (k + 1) y0 y1 y2 y3 y4 y5))
 | 0 => fun _ _ _ _ _ _ r h => by simp [interco_Inside.l0] at h
 | k + 1 => by
  have ih0 := interco_Inside.mono_l k
  ·intro y0 y1 y2 y3 y4 y5
   unfold interco_Inside.l0
   repeat' first
   | (with_reducible exact ih0 _ _ _ _ _ _)
   | (with_reducible exact LeO.refl _)
   | (with_reducible exact LeO.none _)
   | (with_reducible refine LeO.ite ?_ ?_)
   | (with_reducible refine LeO.bind ?_ (fun _ => ?_))
   | exact ih0 _ _ _ _ _ _
   | exact LeO.none _
   | refine LeO.ite ?_ ?_
   | refine LeO.bind ?_ (fun _ => ?_)
theorem interco_Inside.mono : ∀ a0 a1 k, LeO (interco_Inside.f k a0 a1) (interco_Inside.f (k + 1) a0 a1) := by
 intro a0 a1 k
 have ih0 := interco_Inside.mono_l k
 unfold interco_Inside.f
 repeat' first
   | (with_reducible exact ih0 _ _ _ _ _ _)
   | (with_reducible exact LeO.refl _)
   | (with_reducible exact LeO.none _)
   | (with_reducible refine LeO.ite ?_ ?_)
   | (with_reducible refine LeO.bind ?_ (fun _ => ?_))
   | exact ih0 _ _ _ _ _ _
   | exact LeO.none _
   | refine LeO.ite ?_ ?_
   | refine LeO.bind ?_ (fun _ => ?_)
set_option maxHeartbeats 8000000 in
set_option maxRecDepth 100000 in
theorem interco_Inside.calls (k : Nat) (A0 : Option Addr) (c0 : Nat) (l0 : List (S34)) (A1 : Option Addr) (c1 : Nat) (l1 : List ByteArray) (r1 : List (S34)) (r2 : List (S34)) (w : World) (hr0 : Kd.C k34 w A0 l0.length l0) (hc0 : l0.length ≤ c0) (hr1 : Kd.C Kd.string w A1 l1.length l1) (hc1 : l1.length ≤ c1) (h : interco_Inside.f k l0 l1 = some (r1, r2)) :
  Calls Try.prog 44 #[.slice A0 l0.length c0, .slice A1 l1.length c1] w fun e w' => ∃ v0_ v1_ : Value, e = .returned (.tuple #[v0_, v1_]) ∧ Kd.R k34 34 w' w.heap.size (fun k_ => some k_ ≠ (v1_ : Value).ownBlock) v0_ r1 ∧ Kd.R k34 34 w' w.heap.size (fun k_ => some k_ ≠ (v0_ : Value).ownBlock) v1_ r2 ∧ Below w.heap.size w w' := by
 have hu32 := Try.underlying32
 have hu34 := Try.underlying34
 have HR0 := Aside0.mk hr0
 have HC0 := Aside0.mk hc0
 clear hr0 hc0
 have HR1 := Aside0.mk hr1
 have HC1 := Aside0.mk hc1
 clear hr1 hc1
 unfold interco_Inside.f at h
 by_cases hfm : FitM l0 l1
 rotate_left
 ·rw [if_neg hfm] at h; cases h
 rw [if_pos hfm] at h
 have FM := Aside0.mk (show l1.length ≤ 1000000 ∧ (∀ s ∈ l1, s.size ≤ maxLen) ∧ ∀ c ∈ l0, c.f0.f0.size ≤ maxLen ∧ c.f0.f3.size ≤ maxLen from hfm)
 clear hfm
 have H : (interco_Inside.l0 k ([] : List (S34)) ([] : List (S34)) l0 (l0.length : Int) 0 l1) = some (r1, r2) := h
 clear h
 have H' := Aside0.mk H
 clear H
 go_enter Try.func44, Try.ntmps44
 go_upto_region 1 with (fail)
 go_upto_region 2 with (first | (go_at_call 71; (refine (groupof_calls A1 c1 l1 _ HR1.out HC1.out FM.out.1 FM.out.2.1).mono ?_); rintro e_ w3 ⟨gb546, ng, rfl, hm_, hge_, hb_⟩; obtain ⟨es, clk, he_, hall_⟩ := hm_.tells; have HB := Aside0.mk hb_; have BK546 := Aside0.mk he_; have HM := Aside0.mk hall_; have GE546 := Aside0.mk hge_; clear hm_ he_ hall_ hge_ hb_))
 go_wp2
 go_loopg [4, 5, 13] k (fun kq v4 v5 v13 w' => ∃ (x4_1 : List (S34)) (x5_1 : List (S34)) (x13_1 : Int), v13 = .int .i64 x13_1 ∧ Aside0 (interco_Inside.l0 kq x4_1 x5_1 l0 (l0.length : Int) x13_1 l1 = some (r1, r2)) ∧ Aside0 (kq ≤ k) ∧ Aside0 (Kd.R k34 34 w' w.heap.size (fun k_ => some k_ ≠ (v5 : Value).ownBlock) v4 x4_1) ∧ Aside0 (Kd.R k34 34 w' w.heap.size (fun k_ => some k_ ≠ (v4 : Value).ownBlock) v5 x5_1) ∧ Aside0 (w'.heap[gb546]? = some (.map es clk)) ∧ Aside0 (Below w.heap.size w w'))
 case atStart => exact ⟨(([] : List (S34))), (([] : List (S34))), (0), (by first | rfl | (simp; done) | (simp [*]; done)), H', ⟨Nat.le_refl _⟩, ⟨by first | exact Kd.R_nil _ _ _ _ _ | exact Kd.N_nil _ _ _ _ _ | exact Kd.V_nil _ _ _ _ _ | exact Kd.Q_nil _ _ _ _ _ | exact Kd.S_nil _ _ _ _ _⟩, ⟨by first | exact Kd.R_nil _ _ _ _ _ | exact Kd.N_nil _ _ _ _ _ | exact Kd.V_nil _ _ _ _ _ | exact Kd.Q_nil _ _ _ _ _ | exact Kd.S_nil _ _ _ _ _⟩, ⟨by (with_reducible repeat (first | refine blk_drewN ?_ _ | refine blk_drew ?_ | refine blk_alloc ?_ _)); exact BK546.out⟩, ⟨by repeat (first | (with_reducible first | exact HB.out | apply below_alloc | apply pw_below_drewN | apply below_drew1 | refine below_set ?_ GE546.out) | exact HB.out)⟩⟩
 case round =>
  clear H'
  try clear p2
  obtain ⟨x4_1, x5_1, x13_1, rfl, HA, HK1, HO_4, HO_5, BK546, HB⟩ := hrel
  cases gk with
  | zero => exact absurd HA.out (by simp [interco_Inside.l0])
  | succ k1 =>
   have H := HA.out
   clear HA
   simp only [interco_Inside.l0] at H
   by_cases c4 : x13_1 < (l0.length : Int)
   ·rw [if_pos c4] at H
    have c4b0 : decide (x13_1 < (l0.length : Int)) = true := decide_eq_true c4
    clear c4
    by_cases c5 : 0 ≤ x13_1
    ·rw [if_pos c5] at H
     have c5b0 : decide (0 ≤ x13_1) = true := decide_eq_true c5
     clear c5
     by_cases c6 : x13_1 < (l0.length : Int)
     ·rw [if_pos c6] at H
      have c6b0 : decide (x13_1 < (l0.length : Int)) = true := decide_eq_true c6
      clear c6
      replace H := Option.bind_eq_some_iff.mp H
      obtain ⟨t549, A70, H⟩ := H
      try dsimp only at H
      have A7 := Aside0.mk A70
      clear A70
      by_cases c8 : t549 = true
      ·subst c8
       have H1 : (if x4_1.length < 1466015503701 then (interco_Inside.l0 k1 (x4_1 ++ [(⟨(⟨(rd_T34 l0 x13_1).f0.f0, (rd_T34 l0 x13_1).f0.f1, (rd_T34 l0 x13_1).f0.f2, (rd_T34 l0 x13_1).f0.f3, (rd_T34 l0 x13_1).f0.f4⟩ : S32), (rd_T34 l0 x13_1).f1, (rd_T34 l0 x13_1).f2⟩ : S34)]) x5_1 l0 (l0.length : Int) (wrap64 (x13_1 + 1)) l1) else (none)) = some (r1, r2) := by rw [if_pos rfl] at H; exact H
       clear H
       have H := H1
       clear H1
       by_cases c9 : x4_1.length < 1466015503701
       ·rw [if_pos c9] at H
        have LMc9 := Aside0.mk c9
        clear c9
        obtain ⟨y550, hy550⟩ : ∃ y_ : List (S34), y_ = (x4_1 ++ [(⟨(⟨(rd_T34 l0 x13_1).f0.f0, (rd_T34 l0 x13_1).f0.f1, (rd_T34 l0 x13_1).f0.f2, (rd_T34 l0 x13_1).f0.f3, (rd_T34 l0 x13_1).f0.f4⟩ : S32), (rd_T34 l0 x13_1).f1, (rd_T34 l0 x13_1).f2⟩ : S34)]) := ⟨_, rfl⟩
        replace H : (interco_Inside.l0 k1 y550 x5_1 l0 (l0.length : Int) (wrap64 (x13_1 + 1)) l1) = some (r1, r2) := by first | (rw [hy550]; with_reducible exact H) | (have H2_ := (Option.bind_some _ _).symm.trans H; rw [hy550]; with_reducible exact H2_) | (have H2_ := (Option.bind_some _ _).symm.trans H; with_reducible exact H2_) | with_reducible exact H | (rw [hy550]; exact H) | exact H
        have Ny550 := Aside0.mk hy550
        clear hy550
        have H' := Aside0.mk H
        clear H
        have p547 : 0 ≤ (x13_1 : Int) := of_decide_eq_true (by first | (with_reducible assumption) | assumption)
        have q547 : x13_1 < (l0.length : Int) := of_decide_eq_true (by first | (with_reducible assumption) | assumption)
        obtain ⟨ad547, e547, hx547_0, hx547_1, hx547_2, hx547_3, hx547_4, hx547_5, hx547_6⟩ := at_T34 HR0.out x13_1 p547 q547
        cases e547
        replace hx547_0 := (HB.out.cell (World.block_lt_of_cell? w _ hx547_0)).trans hx547_0
        replace hx547_1 := (HB.out.cell (World.block_lt_of_cell? w _ hx547_1)).trans hx547_1
        replace hx547_2 := (HB.out.cell (World.block_lt_of_cell? w _ hx547_2)).trans hx547_2
        replace hx547_3 := (HB.out.cell (World.block_lt_of_cell? w _ hx547_3)).trans hx547_3
        replace hx547_4 := (HB.out.cell (World.block_lt_of_cell? w _ hx547_4)).trans hx547_4
        replace hx547_5 := (HB.out.cell (World.block_lt_of_cell? w _ hx547_5)).trans hx547_5
        replace hx547_6 := (HB.out.cell (World.block_lt_of_cell? w _ hx547_6)).trans hx547_6
        replace p547 := eq_true p547
        replace q547 := eq_true q547
        go_wp2_with (first | ((with_reducible refine gate_dst (N := 8) rfl ?_); refine box_event ?hg (N := 8) ?hd (cs := #[.string (⟨#[]⟩ : ByteArray), .string (⟨#[]⟩ : ByteArray), .string (⟨#[]⟩ : ByteArray), .string (⟨#[]⟩ : ByteArray), .string (⟨#[]⟩ : ByteArray), .int .i64 0, .int .i64 0]) (t := 34) ?hr ?_; (case hd => rfl); (case hg => rfl); (case hr => first | (go_simp; done) | (go_simp; rfl)); intro gb548 hg w10 hbox hb; have n0_ := Aside0.mk (Kd.R_below (Kd.R_elderB (by (with_reducible repeat (first | apply Kd.R_alloc | apply Kd.R_drewN | apply Kd.R_drew)); exact HO_4.out) gb548 (Nat.le_of_eq hg.symm)) hb); have n1_ := Aside0.mk (Kd.R_below (Kd.R_elderB (by (with_reducible repeat (first | apply Kd.R_alloc | apply Kd.R_drewN | apply Kd.R_drew)); exact HO_5.out) gb548 (Nat.le_of_eq hg.symm)) hb); have n2_ := Aside0.mk (blk_below (g := gb546) (o := .map es clk) (by (with_reducible repeat (first | refine blk_drewN ?_ _ | refine blk_drew ?_ | refine blk_alloc ?_ _)); exact BK546.out) hb); have n3_ := Aside0.mk (below_step (by repeat (first | (with_reducible first | exact HB.out | apply below_alloc | apply pw_below_drewN | apply below_drew1 | refine below_set ?_ GE546.out) | exact HB.out)) hb); have n4_ := Aside0.mk (hbox); have n5_ := Aside0.mk ((by rw [hg]; exact (below_size (by repeat (first | (with_reducible first | exact HB.out | apply below_alloc | apply pw_below_drewN | apply below_drew1 | refine below_set ?_ GE546.out) | exact HB.out))) : w.heap.size ≤ gb548)); have n6_ := Aside0.mk ((by rw [hg]; exact (below_size (by repeat (first | (with_reducible first | exact HB.out | apply below_alloc | apply pw_below_drewN | apply below_drew1 | refine below_set ?_ GE546.out) | exact HB.out))) : w.heap.size ≤ gb548)); have n7_ := Aside0.mk ((by rw [hg]; exact Nat.ne_of_lt (blk_lt (g := gb546) (o := .map es clk) (by (with_reducible repeat (first | refine blk_drewN ?_ _ | refine blk_drew ?_ | refine blk_alloc ?_ _)); exact BK546.out)) : gb546 ≠ gb548)); have n8_ := Aside0.mk ((by rw [hg]; exact Nat.ne_of_gt (blk_lt (g := gb546) (o := .map es clk) (by (with_reducible repeat (first | refine blk_drewN ?_ _ | refine blk_drew ?_ | refine blk_alloc ?_ _)); exact BK546.out)) : gb548 ≠ gb546)); clear HO_4; clear HO_5; clear BK546; clear HB; have HO_4 := n0_; have HO_5 := n1_; have BK546 := n2_; have HB := n3_; have BK548 := n4_; have GW548 := n5_; have GE548 := n6_; have NB546_548 := n7_; have NB548_546 := n8_; clear n0_ n1_ n2_ n3_ n4_ n5_ n6_ n7_ n8_; clear hb hbox hg; have hnb11 := NB548_546.out; have hnc11 := NB546_548.out; have hcz12_0 : w10.cell? ⟨gb548, 0, none⟩ = some (.string (⟨#[]⟩ : ByteArray)) := (blk_cell BK548.out 0).trans rfl; have hcz12_1 : w10.cell? ⟨gb548, 1, none⟩ = some (.string (⟨#[]⟩ : ByteArray)) := (blk_cell BK548.out 1).trans rfl; have hcz12_2 : w10.cell? ⟨gb548, 2, none⟩ = some (.string (⟨#[]⟩ : ByteArray)) := (blk_cell BK548.out 2).trans rfl; have hcz12_3 : w10.cell? ⟨gb548, 3, none⟩ = some (.string (⟨#[]⟩ : ByteArray)) := (blk_cell BK548.out 3).trans rfl; have hcz12_4 : w10.cell? ⟨gb548, 4, none⟩ = some (.string (⟨#[]⟩ : ByteArray)) := (blk_cell BK548.out 4).trans rfl; have hcz12_5 : w10.cell? ⟨gb548, 5, none⟩ = some (.int .i64 0) := (blk_cell BK548.out 5).trans rfl; have hcz12_6 : w10.cell? ⟨gb548, 6, none⟩ = some (.int .i64 0) := (blk_cell BK548.out 6).trans rfl; have hfz12_0 := blk_frozen BK548.out 0; have hfz12_1 := blk_frozen BK548.out 1; have hfz12_2 := blk_frozen BK548.out 2; have hfz12_3 := blk_frozen BK548.out 3; have hfz12_4 := blk_frozen BK548.out 4; have hfz12_5 := blk_frozen BK548.out 5; have hfz12_6 := blk_frozen BK548.out 6) | ((with_reducible refine gate_callee (f := 72) rfl ?_); refine goesL_ (some 20) rfl rfl Try.func72 (by kernel_rfl) rfl #[.map (some gb546), .agg #[.string ((rd_T34 l0 x13_1).f0.f0), .string ((rd_T34 l0 x13_1).f0.f1), .string ((rd_T34 l0 x13_1).f0.f2), .string ((rd_T34 l0 x13_1).f0.f3), .string ((rd_T34 l0 x13_1).f0.f4)]] rfl (by (try simp only [List.map_toArray, List.map_cons, List.map_nil]); first | done | rfl | (simp only [List.length_drop, List.length_take]; rfl)) ?_; (with_reducible refine (inside_at gb546 l1 (rd_T34 l0 x13_1).f0 true (HM.out _ (by (with_reducible repeat (first | refine blk_drewN ?_ _ | refine blk_drew ?_ | refine blk_alloc ?_ _)); refine map_far ?_ NB546_548.out _; (with_reducible repeat (first | refine blk_drewN ?_ _ | refine blk_drew ?_ | refine blk_alloc ?_ _)); refine map_far ?_ NB546_548.out _; (with_reducible repeat (first | refine blk_drewN ?_ _ | refine blk_drew ?_ | refine blk_alloc ?_ _)); refine map_far ?_ NB546_548.out _; (with_reducible repeat (first | refine blk_drewN ?_ _ | refine blk_drew ?_ | refine blk_alloc ?_ _)); refine map_far ?_ NB546_548.out _; (with_reducible repeat (first | refine blk_drewN ?_ _ | refine blk_drew ?_ | refine blk_alloc ?_ _)); refine map_far ?_ NB546_548.out _; (with_reducible repeat (first | refine blk_drewN ?_ _ | refine blk_drew ?_ | refine blk_alloc ?_ _)); refine map_far ?_ NB546_548.out _; (with_reducible repeat (first | refine blk_drewN ?_ _ | refine blk_drew ?_ | refine blk_alloc ?_ _)); refine map_far ?_ NB546_548.out _; (with_reducible repeat (first | refine blk_drewN ?_ _ | refine blk_drew ?_ | refine blk_alloc ?_ _)); exact BK546.out)) (FM.out.2.2 _ (rd_mem (of_decide_eq_true (by first | (with_reducible assumption) | assumption)) (of_decide_eq_true (by first | (with_reducible assumption) | assumption)))) A7.out).mono ?_); rintro e w14 ⟨rfl, hb⟩; refine ⟨_, rfl, ?_⟩; have n0_ := Aside0.mk (Kd.R_below (by (with_reducible repeat (first | apply Kd.R_alloc | apply Kd.R_drewN | apply Kd.R_drew)); exact (Kd.R_mono (Kd.R_far (p := ⟨gb548, 6, none⟩) (Kd.R_far (p := ⟨gb548, 5, none⟩) (Kd.R_far (p := ⟨gb548, 4, none⟩) (Kd.R_far (p := ⟨gb548, 3, none⟩) (Kd.R_far (p := ⟨gb548, 2, none⟩) (Kd.R_far (p := ⟨gb548, 1, none⟩) (Kd.R_far (p := ⟨gb548, 0, none⟩) (Kd.R_mono HO_4.out (fun k_ hk => (⟨hk, hk.2⟩ : _ ∧ k_ ≠ gb548))) (fun _ hk => hk.2) (.string ((rd_T34 l0 x13_1).f0.f0))) (fun _ hk => hk.2) (.string ((rd_T34 l0 x13_1).f0.f1))) (fun _ hk => hk.2) (.string ((rd_T34 l0 x13_1).f0.f2))) (fun _ hk => hk.2) (.string ((rd_T34 l0 x13_1).f0.f3))) (fun _ hk => hk.2) (.string ((rd_T34 l0 x13_1).f0.f4))) (fun _ hk => hk.2) (.int .i64 ((rd_T34 l0 x13_1).f1))) (fun _ hk => hk.2) (.int .i64 ((rd_T34 l0 x13_1).f2))) (fun _ h_ => h_.1))) hb); have n1_ := Aside0.mk (Kd.R_below (by (with_reducible repeat (first | apply Kd.R_alloc | apply Kd.R_drewN | apply Kd.R_drew)); exact (Kd.R_mono (Kd.R_far (p := ⟨gb548, 6, none⟩) (Kd.R_far (p := ⟨gb548, 5, none⟩) (Kd.R_far (p := ⟨gb548, 4, none⟩) (Kd.R_far (p := ⟨gb548, 3, none⟩) (Kd.R_far (p := ⟨gb548, 2, none⟩) (Kd.R_far (p := ⟨gb548, 1, none⟩) (Kd.R_far (p := ⟨gb548, 0, none⟩) (Kd.R_mono HO_5.out (fun k_ hk => (⟨hk, hk.2⟩ : _ ∧ k_ ≠ gb548))) (fun _ hk => hk.2) (.string ((rd_T34 l0 x13_1).f0.f0))) (fun _ hk => hk.2) (.string ((rd_T34 l0 x13_1).f0.f1))) (fun _ hk => hk.2) (.string ((rd_T34 l0 x13_1).f0.f2))) (fun _ hk => hk.2) (.string ((rd_T34 l0 x13_1).f0.f3))) (fun _ hk => hk.2) (.string ((rd_T34 l0 x13_1).f0.f4))) (fun _ hk => hk.2) (.int .i64 ((rd_T34 l0 x13_1).f1))) (fun _ hk => hk.2) (.int .i64 ((rd_T34 l0 x13_1).f2))) (fun _ h_ => h_.1))) hb); have n2_ := Aside0.mk (blk_below (g := gb546) (o := .map es clk) (by (with_reducible repeat (first | refine blk_drewN ?_ _ | refine blk_drew ?_ | refine blk_alloc ?_ _)); refine map_far ?_ NB546_548.out _; (with_reducible repeat (first | refine blk_drewN ?_ _ | refine blk_drew ?_ | refine blk_alloc ?_ _)); refine map_far ?_ NB546_548.out _; (with_reducible repeat (first | refine blk_drewN ?_ _ | refine blk_drew ?_ | refine blk_alloc ?_ _)); refine map_far ?_ NB546_548.out _; (with_reducible repeat (first | refine blk_drewN ?_ _ | refine blk_drew ?_ | refine blk_alloc ?_ _)); refine map_far ?_ NB546_548.out _; (with_reducible repeat (first | refine blk_drewN ?_ _ | refine blk_drew ?_ | refine blk_alloc ?_ _)); refine map_far ?_ NB546_548.out _; (with_reducible repeat (first | refine blk_drewN ?_ _ | refine blk_drew ?_ | refine blk_alloc ?_ _)); refine map_far ?_ NB546_548.out _; (with_reducible repeat (first | refine blk_drewN ?_ _ | refine blk_drew ?_ | refine blk_alloc ?_ _)); refine map_far ?_ NB546_548.out _; (with_reducible repeat (first | refine blk_drewN ?_ _ | refine blk_drew ?_ | refine blk_alloc ?_ _)); exact BK546.out) hb); have n3_ := Aside0.mk (blk_below (g := gb548) (o := .cells #[.string ((rd_T34 l0 x13_1).f0.f0), .string ((rd_T34 l0 x13_1).f0.f1), .string ((rd_T34 l0 x13_1).f0.f2), .string ((rd_T34 l0 x13_1).f0.f3), .string ((rd_T34 l0 x13_1).f0.f4), .int .i64 ((rd_T34 l0 x13_1).f1), .int .i64 ((rd_T34 l0 x13_1).f2)] 34 (0, 0)) (by (with_reducible repeat (first | refine blk_drewN ?_ _ | refine blk_drew ?_ | refine blk_alloc ?_ _)); refine blk_put (cs := #[.string ((rd_T34 l0 x13_1).f0.f0), .string ((rd_T34 l0 x13_1).f0.f1), .string ((rd_T34 l0 x13_1).f0.f2), .string ((rd_T34 l0 x13_1).f0.f3), .string ((rd_T34 l0 x13_1).f0.f4), .int .i64 ((rd_T34 l0 x13_1).f1), .int .i64 0]) ?_ 6 _ rfl; (with_reducible repeat (first | refine blk_drewN ?_ _ | refine blk_drew ?_ | refine blk_alloc ?_ _)); refine blk_put (cs := #[.string ((rd_T34 l0 x13_1).f0.f0), .string ((rd_T34 l0 x13_1).f0.f1), .string ((rd_T34 l0 x13_1).f0.f2), .string ((rd_T34 l0 x13_1).f0.f3), .string ((rd_T34 l0 x13_1).f0.f4), .int .i64 0, .int .i64 0]) ?_ 5 _ rfl; (with_reducible repeat (first | refine blk_drewN ?_ _ | refine blk_drew ?_ | refine blk_alloc ?_ _)); refine blk_put (cs := #[.string ((rd_T34 l0 x13_1).f0.f0), .string ((rd_T34 l0 x13_1).f0.f1), .string ((rd_T34 l0 x13_1).f0.f2), .string ((rd_T34 l0 x13_1).f0.f3), .string (⟨#[]⟩ : ByteArray), .int .i64 0, .int .i64 0]) ?_ 4 _ rfl; (with_reducible repeat (first | refine blk_drewN ?_ _ | refine blk_drew ?_ | refine blk_alloc ?_ _)); refine blk_put (cs := #[.string ((rd_T34 l0 x13_1).f0.f0), .string ((rd_T34 l0 x13_1).f0.f1), .string ((rd_T34 l0 x13_1).f0.f2), .string (⟨#[]⟩ : ByteArray), .string (⟨#[]⟩ : ByteArray), .int .i64 0, .int .i64 0]) ?_ 3 _ rfl; (with_reducible repeat (first | refine blk_drewN ?_ _ | refine blk_drew ?_ | refine blk_alloc ?_ _)); refine blk_put (cs := #[.string ((rd_T34 l0 x13_1).f0.f0), .string ((rd_T34 l0 x13_1).f0.f1), .string (⟨#[]⟩ : ByteArray), .string (⟨#[]⟩ : ByteArray), .string (⟨#[]⟩ : ByteArray), .int .i64 0, .int .i64 0]) ?_ 2 _ rfl; (with_reducible repeat (first | refine blk_drewN ?_ _ | refine blk_drew ?_ | refine blk_alloc ?_ _)); refine blk_put (cs := #[.string ((rd_T34 l0 x13_1).f0.f0), .string (⟨#[]⟩ : ByteArray), .string (⟨#[]⟩ : ByteArray), .string (⟨#[]⟩ : ByteArray), .string (⟨#[]⟩ : ByteArray), .int .i64 0, .int .i64 0]) ?_ 1 _ rfl; (with_reducible repeat (first | refine blk_drewN ?_ _ | refine blk_drew ?_ | refine blk_alloc ?_ _)); refine blk_put (cs := #[.string (⟨#[]⟩ : ByteArray), .string (⟨#[]⟩ : ByteArray), .string (⟨#[]⟩ : ByteArray), .string (⟨#[]⟩ : ByteArray), .string (⟨#[]⟩ : ByteArray), .int .i64 0, .int .i64 0]) ?_ 0 _ rfl; (with_reducible repeat (first | refine blk_drewN ?_ _ | refine blk_drew ?_ | refine blk_alloc ?_ _)); exact BK548.out) hb); have n4_ := Aside0.mk (below_step (by repeat (first | (with_reducible first | exact HB.out | apply below_alloc | apply pw_below_drewN | apply below_drew1 | refine below_set ?_ GE546.out | refine below_set ?_ GE548.out) | exact HB.out)) hb); clear HO_4; clear HO_5; clear BK546; clear BK548; clear HB; have HO_4 := n0_; have HO_5 := n1_; have BK546 := n2_; have BK548 := n3_; have HB := n4_; clear n0_ n1_ n2_ n3_ n4_; (try clear hb); (try clear hb2); (try clear hk); (try clear hi); have hcz15_0 : w14.cell? ⟨gb548, 0, none⟩ = some (.string ((rd_T34 l0 x13_1).f0.f0)) := (blk_cell BK548.out 0).trans rfl; have hcz15_1 : w14.cell? ⟨gb548, 1, none⟩ = some (.string ((rd_T34 l0 x13_1).f0.f1)) := (blk_cell BK548.out 1).trans rfl; have hcz15_2 : w14.cell? ⟨gb548, 2, none⟩ = some (.string ((rd_T34 l0 x13_1).f0.f2)) := (blk_cell BK548.out 2).trans rfl; have hcz15_3 : w14.cell? ⟨gb548, 3, none⟩ = some (.string ((rd_T34 l0 x13_1).f0.f3)) := (blk_cell BK548.out 3).trans rfl; have hcz15_4 : w14.cell? ⟨gb548, 4, none⟩ = some (.string ((rd_T34 l0 x13_1).f0.f4)) := (blk_cell BK548.out 4).trans rfl; have hcz15_5 : w14.cell? ⟨gb548, 5, none⟩ = some (.int .i64 ((rd_T34 l0 x13_1).f1)) := (blk_cell BK548.out 5).trans rfl; have hcz15_6 : w14.cell? ⟨gb548, 6, none⟩ = some (.int .i64 ((rd_T34 l0 x13_1).f2)) := (blk_cell BK548.out 6).trans rfl; have hfz15_0 := blk_frozen BK548.out 0; have hfz15_1 := blk_frozen BK548.out 1; have hfz15_2 := blk_frozen BK548.out 2; have hfz15_3 := blk_frozen BK548.out 3; have hfz15_4 := blk_frozen BK548.out 4; have hfz15_5 := blk_frozen BK548.out 5; have hfz15_6 := blk_frozen BK548.out 6) | ((with_reducible refine gate_builtin (b := .append) (xs := #[.tmp 21, .tmp 23]) rfl ?_); at_builtin; refine Kd.R_append k34 (w0 := w) w.heap.size rfl (.tmp 21) (.tmp 23) 22 34 (.agg #[(.string ⟨#[]⟩), (.string ⟨#[]⟩), (.string ⟨#[]⟩), (.string ⟨#[]⟩), (.string ⟨#[]⟩), (.int .i64 0), (.int .i64 0)]) 96 rfl Try.underlying22 info34 rfl (by decide) (by omega) u4 x4_1 (⟨(⟨(rd_T34 l0 x13_1).f0.f0, (rd_T34 l0 x13_1).f0.f1, (rd_T34 l0 x13_1).f0.f2, (rd_T34 l0 x13_1).f0.f3, (rd_T34 l0 x13_1).f0.f4⟩ : S32), (rd_T34 l0 x13_1).f1, (rd_T34 l0 x13_1).f2⟩ : S34) [.string ((rd_T34 l0 x13_1).f0.f0), .string ((rd_T34 l0 x13_1).f0.f1), .string ((rd_T34 l0 x13_1).f0.f2), .string ((rd_T34 l0 x13_1).f0.f3), .string ((rd_T34 l0 x13_1).f0.f4), .int .i64 ((rd_T34 l0 x13_1).f1), .int .i64 ((rd_T34 l0 x13_1).f2)] (fun k_ => some k_ ≠ (u5 : Value).ownBlock ∧ k_ ≠ gb548) (fun _ => False) rfl rfl ?aP (fun _ hk => hk.elim) ?aF ?aO ?aB ?aS ?aL ?_; (case aP => exact k34_mkM _ _ _ (⟨(⟨(rd_T34 l0 x13_1).f0.f0, (rd_T34 l0 x13_1).f0.f1, (rd_T34 l0 x13_1).f0.f2, (rd_T34 l0 x13_1).f0.f3, (rd_T34 l0 x13_1).f0.f4⟩ : S32), (rd_T34 l0 x13_1).f1, (rd_T34 l0 x13_1).f2⟩ : S34)); (case aB => exact (by repeat (first | (with_reducible first | exact HB.out | apply below_alloc | apply pw_below_drewN | apply below_drew1 | refine below_set ?_ GE546.out | refine below_set ?_ GE548.out) | exact HB.out))); (case aF => exact (fun k_ hk => ⟨Kd.fresh' (Kd.R_lt (by (with_reducible repeat (first | apply Kd.R_alloc | apply Kd.R_drewN | apply Kd.R_drew)); exact HO_5.out)) k_ hk, Kd.freshB (g := gb548) (o := .cells #[.string ((rd_T34 l0 x13_1).f0.f0), .string ((rd_T34 l0 x13_1).f0.f1), .string ((rd_T34 l0 x13_1).f0.f2), .string ((rd_T34 l0 x13_1).f0.f3), .string ((rd_T34 l0 x13_1).f0.f4), .int .i64 ((rd_T34 l0 x13_1).f1), .int .i64 ((rd_T34 l0 x13_1).f2)] 34 (0, 0)) (by (with_reducible repeat (first | refine blk_drewN ?_ _ | refine blk_drew ?_ | refine blk_alloc ?_ _)); exact BK548.out) k_ hk⟩)); (case aO => exact (by (with_reducible repeat (first | apply Kd.R_alloc | apply Kd.R_drewN | apply Kd.R_drew)); exact HO_4.out)); (case aS => exact (below_size (by repeat (first | (with_reducible first | exact HB.out | apply below_alloc | apply pw_below_drewN | apply below_drew1 | refine below_set ?_ GE546.out | refine below_set ?_ GE548.out) | exact HB.out)))); (case aL => have := LMc9.out; omega); intro v551 w16 ho hb hg hat; rw [← Ny550.out] at ho; have n0_ := Aside0.mk (Kd.R_after (ok := (fun k_ => k_ ≠ gb548)) (by (with_reducible repeat (first | apply Kd.R_alloc | apply Kd.R_drewN | apply Kd.R_drew)); exact Kd.R_mono HO_5.out (fun _ hk => ⟨hk.2, hk.1⟩)) hg hat); have n1_ := Aside0.mk (blk_grown (g := gb546) (o := .map es clk) (by (with_reducible repeat (first | refine blk_drewN ?_ _ | refine blk_drew ?_ | refine blk_alloc ?_ _)); exact BK546.out) hg (R_ne_map HO_4.out BK546.out)); have n2_ := Aside0.mk (blk_grown (g := gb548) (o := .cells #[.string ((rd_T34 l0 x13_1).f0.f0), .string ((rd_T34 l0 x13_1).f0.f1), .string ((rd_T34 l0 x13_1).f0.f2), .string ((rd_T34 l0 x13_1).f0.f3), .string ((rd_T34 l0 x13_1).f0.f4), .int .i64 ((rd_T34 l0 x13_1).f1), .int .i64 ((rd_T34 l0 x13_1).f2)] 34 (0, 0)) (by (with_reducible repeat (first | refine blk_drewN ?_ _ | refine blk_drew ?_ | refine blk_alloc ?_ _)); exact BK548.out) hg (Kd.R_away HO_4.out (fun _ hk => hk.2))); have n3_ := Aside0.mk (hb); have n4_ := Aside0.mk (ho); clear HO_5; clear BK546; clear BK548; clear HB; clear HO_4; have HO_5 := n0_; have BK546 := n1_; have BK548 := n2_; have HB := n3_; have HO552 := n4_; clear n0_ n1_ n2_ n3_ n4_; clear ho hb hg hat))
        go_roundg k1
        case measure => have := HK1.out; omega
        case rel => exact ⟨(y550), (x5_1), (wrap64 (x13_1 + 1)), (by first | rfl | (simp; done) | (simp [*]; done)), H', ⟨by have := HK1.out; omega⟩, ⟨by (with_reducible repeat (first | apply Kd.R_alloc | apply Kd.R_drewN | apply Kd.R_drew)); exact Kd.R_mono HO552.out (fun _ hk => hk.1)⟩, ⟨by (with_reducible repeat (first | apply Kd.R_alloc | apply Kd.R_drewN | apply Kd.R_drew)); exact Kd.R_mono HO_5.out (fun _ hk => hk.2)⟩, ⟨by (with_reducible repeat (first | refine blk_drewN ?_ _ | refine blk_drew ?_ | refine blk_alloc ?_ _)); exact BK546.out⟩, ⟨by repeat (first | (with_reducible first | exact HB.out | apply below_alloc | apply pw_below_drewN | apply below_drew1 | refine below_set ?_ GE546.out | refine below_set ?_ GE548.out) | exact HB.out)⟩⟩
       ·rw [if_neg c9] at H
        exact absurd H (by simp)
      ·replace c8 := Bool.eq_false_iff.mpr c8
       subst c8
       have H1 : (if x5_1.length < 1466015503701 then (interco_Inside.l0 k1 x4_1 (x5_1 ++ [(⟨(⟨(rd_T34 l0 x13_1).f0.f0, (rd_T34 l0 x13_1).f0.f1, (rd_T34 l0 x13_1).f0.f2, (rd_T34 l0 x13_1).f0.f3, (rd_T34 l0 x13_1).f0.f4⟩ : S32), (rd_T34 l0 x13_1).f1, (rd_T34 l0 x13_1).f2⟩ : S34)]) l0 (l0.length : Int) (wrap64 (x13_1 + 1)) l1) else (none)) = some (r1, r2) := by rw [if_neg (show ¬ (false = true) by decide)] at H; exact H
       clear H
       have H := H1
       clear H1
       by_cases c17 : x5_1.length < 1466015503701
       ·rw [if_pos c17] at H
        have LMc17 := Aside0.mk c17
        clear c17
        obtain ⟨y553, hy553⟩ : ∃ y_ : List (S34), y_ = (x5_1 ++ [(⟨(⟨(rd_T34 l0 x13_1).f0.f0, (rd_T34 l0 x13_1).f0.f1, (rd_T34 l0 x13_1).f0.f2, (rd_T34 l0 x13_1).f0.f3, (rd_T34 l0 x13_1).f0.f4⟩ : S32), (rd_T34 l0 x13_1).f1, (rd_T34 l0 x13_1).f2⟩ : S34)]) := ⟨_, rfl⟩
        replace H : (interco_Inside.l0 k1 x4_1 y553 l0 (l0.length : Int) (wrap64 (x13_1 + 1)) l1) = some (r1, r2) := by first | (rw [hy553]; with_reducible exact H) | (have H2_ := (Option.bind_some _ _).symm.trans H; rw [hy553]; with_reducible exact H2_) | (have H2_ := (Option.bind_some _ _).symm.trans H; with_reducible exact H2_) | with_reducible exact H | (rw [hy553]; exact H) | exact H
        have Ny553 := Aside0.mk hy553
        clear hy553
        have H' := Aside0.mk H
        clear H
        have p547 : 0 ≤ (x13_1 : Int) := of_decide_eq_true (by first | (with_reducible assumption) | assumption)
        have q547 : x13_1 < (l0.length : Int) := of_decide_eq_true (by first | (with_reducible assumption) | assumption)
        obtain ⟨ad547, e547, hx547_0, hx547_1, hx547_2, hx547_3, hx547_4, hx547_5, hx547_6⟩ := at_T34 HR0.out x13_1 p547 q547
        cases e547
        replace hx547_0 := (HB.out.cell (World.block_lt_of_cell? w _ hx547_0)).trans hx547_0
        replace hx547_1 := (HB.out.cell (World.block_lt_of_cell? w _ hx547_1)).trans hx547_1
        replace hx547_2 := (HB.out.cell (World.block_lt_of_cell? w _ hx547_2)).trans hx547_2
        replace hx547_3 := (HB.out.cell (World.block_lt_of_cell? w _ hx547_3)).trans hx547_3
        replace hx547_4 := (HB.out.cell (World.block_lt_of_cell? w _ hx547_4)).trans hx547_4
        replace hx547_5 := (HB.out.cell (World.block_lt_of_cell? w _ hx547_5)).trans hx547_5
        replace hx547_6 := (HB.out.cell (World.block_lt_of_cell? w _ hx547_6)).trans hx547_6
        replace p547 := eq_true p547
        replace q547 := eq_true q547
        go_wp2_with (first | ((with_reducible refine gate_dst (N := 8) rfl ?_); refine box_event ?hg (N := 8) ?hd (cs := #[.string (⟨#[]⟩ : ByteArray), .string (⟨#[]⟩ : ByteArray), .string (⟨#[]⟩ : ByteArray), .string (⟨#[]⟩ : ByteArray), .string (⟨#[]⟩ : ByteArray), .int .i64 0, .int .i64 0]) (t := 34) ?hr ?_; (case hd => rfl); (case hg => rfl); (case hr => first | (go_simp; done) | (go_simp; rfl)); intro gb548 hg w18 hbox hb; have n0_ := Aside0.mk (Kd.R_below (Kd.R_elderB (by (with_reducible repeat (first | apply Kd.R_alloc | apply Kd.R_drewN | apply Kd.R_drew)); exact HO_4.out) gb548 (Nat.le_of_eq hg.symm)) hb); have n1_ := Aside0.mk (Kd.R_below (Kd.R_elderB (by (with_reducible repeat (first | apply Kd.R_alloc | apply Kd.R_drewN | apply Kd.R_drew)); exact HO_5.out) gb548 (Nat.le_of_eq hg.symm)) hb); have n2_ := Aside0.mk (blk_below (g := gb546) (o := .map es clk) (by (with_reducible repeat (first | refine blk_drewN ?_ _ | refine blk_drew ?_ | refine blk_alloc ?_ _)); exact BK546.out) hb); have n3_ := Aside0.mk (below_step (by repeat (first | (with_reducible first | exact HB.out | apply below_alloc | apply pw_below_drewN | apply below_drew1 | refine below_set ?_ GE546.out) | exact HB.out)) hb); have n4_ := Aside0.mk (hbox); have n5_ := Aside0.mk ((by rw [hg]; exact (below_size (by repeat (first | (with_reducible first | exact HB.out | apply below_alloc | apply pw_below_drewN | apply below_drew1 | refine below_set ?_ GE546.out) | exact HB.out))) : w.heap.size ≤ gb548)); have n6_ := Aside0.mk ((by rw [hg]; exact (below_size (by repeat (first | (with_reducible first | exact HB.out | apply below_alloc | apply pw_below_drewN | apply below_drew1 | refine below_set ?_ GE546.out) | exact HB.out))) : w.heap.size ≤ gb548)); have n7_ := Aside0.mk ((by rw [hg]; exact Nat.ne_of_lt (blk_lt (g := gb546) (o := .map es clk) (by (with_reducible repeat (first | refine blk_drewN ?_ _ | refine blk_drew ?_ | refine blk_alloc ?_ _)); exact BK546.out)) : gb546 ≠ gb548)); have n8_ := Aside0.mk ((by rw [hg]; exact Nat.ne_of_gt (blk_lt (g := gb546) (o := .map es clk) (by (with_reducible repeat (first | refine blk_drewN ?_ _ | refine blk_drew ?_ | refine blk_alloc ?_ _)); exact BK546.out)) : gb548 ≠ gb546)); clear HO_4; clear HO_5; clear BK546; clear HB; have HO_4 := n0_; have HO_5 := n1_; have BK546 := n2_; have HB := n3_; have BK548 := n4_; have GW548 := n5_; have GE548 := n6_; have NB546_548 := n7_; have NB548_546 := n8_; clear n0_ n1_ n2_ n3_ n4_ n5_ n6_ n7_ n8_; clear hb hbox hg; have hnb19 := NB548_546.out; have hnc19 := NB546_548.out; have hcz20_0 : w18.cell? ⟨gb548, 0, none⟩ = some (.string (⟨#[]⟩ : ByteArray)) := (blk_cell BK548.out 0).trans rfl; have hcz20_1 : w18.cell? ⟨gb548, 1, none⟩ = some (.string (⟨#[]⟩ : ByteArray)) := (blk_cell BK548.out 1).trans rfl; have hcz20_2 : w18.cell? ⟨gb548, 2, none⟩ = some (.string (⟨#[]⟩ : ByteArray)) := (blk_cell BK548.out 2).trans rfl; have hcz20_3 : w18.cell? ⟨gb548, 3, none⟩ = some (.string (⟨#[]⟩ : ByteArray)) := (blk_cell BK548.out 3).trans rfl; have hcz20_4 : w18.cell? ⟨gb548, 4, none⟩ = some (.string (⟨#[]⟩ : ByteArray)) := (blk_cell BK548.out 4).trans rfl; have hcz20_5 : w18.cell? ⟨gb548, 5, none⟩ = some (.int .i64 0) := (blk_cell BK548.out 5).trans rfl; have hcz20_6 : w18.cell? ⟨gb548, 6, none⟩ = some (.int .i64 0) := (blk_cell BK548.out 6).trans rfl; have hfz20_0 := blk_frozen BK548.out 0; have hfz20_1 := blk_frozen BK548.out 1; have hfz20_2 := blk_frozen BK548.out 2; have hfz20_3 := blk_frozen BK548.out 3; have hfz20_4 := blk_frozen BK548.out 4; have hfz20_5 := blk_frozen BK548.out 5; have hfz20_6 := blk_frozen BK548.out 6) | ((with_reducible refine gate_callee (f := 72) rfl ?_); refine goesL_ (some 20) rfl rfl Try.func72 (by kernel_rfl) rfl #[.map (some gb546), .agg #[.string ((rd_T34 l0 x13_1).f0.f0), .string ((rd_T34 l0 x13_1).f0.f1), .string ((rd_T34 l0 x13_1).f0.f2), .string ((rd_T34 l0 x13_1).f0.f3), .string ((rd_T34 l0 x13_1).f0.f4)]] rfl (by (try simp only [List.map_toArray, List.map_cons, List.map_nil]); first | done | rfl | (simp only [List.length_drop, List.length_take]; rfl)) ?_; (with_reducible refine (inside_at gb546 l1 (rd_T34 l0 x13_1).f0 false (HM.out _ (by (with_reducible repeat (first | refine blk_drewN ?_ _ | refine blk_drew ?_ | refine blk_alloc ?_ _)); refine map_far ?_ NB546_548.out _; (with_reducible repeat (first | refine blk_drewN ?_ _ | refine blk_drew ?_ | refine blk_alloc ?_ _)); refine map_far ?_ NB546_548.out _; (with_reducible repeat (first | refine blk_drewN ?_ _ | refine blk_drew ?_ | refine blk_alloc ?_ _)); refine map_far ?_ NB546_548.out _; (with_reducible repeat (first | refine blk_drewN ?_ _ | refine blk_drew ?_ | refine blk_alloc ?_ _)); refine map_far ?_ NB546_548.out _; (with_reducible repeat (first | refine blk_drewN ?_ _ | refine blk_drew ?_ | refine blk_alloc ?_ _)); refine map_far ?_ NB546_548.out _; (with_reducible repeat (first | refine blk_drewN ?_ _ | refine blk_drew ?_ | refine blk_alloc ?_ _)); refine map_far ?_ NB546_548.out _; (with_reducible repeat (first | refine blk_drewN ?_ _ | refine blk_drew ?_ | refine blk_alloc ?_ _)); refine map_far ?_ NB546_548.out _; (with_reducible repeat (first | refine blk_drewN ?_ _ | refine blk_drew ?_ | refine blk_alloc ?_ _)); exact BK546.out)) (FM.out.2.2 _ (rd_mem (of_decide_eq_true (by first | (with_reducible assumption) | assumption)) (of_decide_eq_true (by first | (with_reducible assumption) | assumption)))) A7.out).mono ?_); rintro e w22 ⟨rfl, hb⟩; refine ⟨_, rfl, ?_⟩; have n0_ := Aside0.mk (Kd.R_below (by (with_reducible repeat (first | apply Kd.R_alloc | apply Kd.R_drewN | apply Kd.R_drew)); exact (Kd.R_mono (Kd.R_far (p := ⟨gb548, 6, none⟩) (Kd.R_far (p := ⟨gb548, 5, none⟩) (Kd.R_far (p := ⟨gb548, 4, none⟩) (Kd.R_far (p := ⟨gb548, 3, none⟩) (Kd.R_far (p := ⟨gb548, 2, none⟩) (Kd.R_far (p := ⟨gb548, 1, none⟩) (Kd.R_far (p := ⟨gb548, 0, none⟩) (Kd.R_mono HO_4.out (fun k_ hk => (⟨hk, hk.2⟩ : _ ∧ k_ ≠ gb548))) (fun _ hk => hk.2) (.string ((rd_T34 l0 x13_1).f0.f0))) (fun _ hk => hk.2) (.string ((rd_T34 l0 x13_1).f0.f1))) (fun _ hk => hk.2) (.string ((rd_T34 l0 x13_1).f0.f2))) (fun _ hk => hk.2) (.string ((rd_T34 l0 x13_1).f0.f3))) (fun _ hk => hk.2) (.string ((rd_T34 l0 x13_1).f0.f4))) (fun _ hk => hk.2) (.int .i64 ((rd_T34 l0 x13_1).f1))) (fun _ hk => hk.2) (.int .i64 ((rd_T34 l0 x13_1).f2))) (fun _ h_ => h_.1))) hb); have n1_ := Aside0.mk (Kd.R_below (by (with_reducible repeat (first | apply Kd.R_alloc | apply Kd.R_drewN | apply Kd.R_drew)); exact (Kd.R_mono (Kd.R_far (p := ⟨gb548, 6, none⟩) (Kd.R_far (p := ⟨gb548, 5, none⟩) (Kd.R_far (p := ⟨gb548, 4, none⟩) (Kd.R_far (p := ⟨gb548, 3, none⟩) (Kd.R_far (p := ⟨gb548, 2, none⟩) (Kd.R_far (p := ⟨gb548, 1, none⟩) (Kd.R_far (p := ⟨gb548, 0, none⟩) (Kd.R_mono HO_5.out (fun k_ hk => (⟨hk, hk.2⟩ : _ ∧ k_ ≠ gb548))) (fun _ hk => hk.2) (.string ((rd_T34 l0 x13_1).f0.f0))) (fun _ hk => hk.2) (.string ((rd_T34 l0 x13_1).f0.f1))) (fun _ hk => hk.2) (.string ((rd_T34 l0 x13_1).f0.f2))) (fun _ hk => hk.2) (.string ((rd_T34 l0 x13_1).f0.f3))) (fun _ hk => hk.2) (.string ((rd_T34 l0 x13_1).f0.f4))) (fun _ hk => hk.2) (.int .i64 ((rd_T34 l0 x13_1).f1))) (fun _ hk => hk.2) (.int .i64 ((rd_T34 l0 x13_1).f2))) (fun _ h_ => h_.1))) hb); have n2_ := Aside0.mk (blk_below (g := gb546) (o := .map es clk) (by (with_reducible repeat (first | refine blk_drewN ?_ _ | refine blk_drew ?_ | refine blk_alloc ?_ _)); refine map_far ?_ NB546_548.out _; (with_reducible repeat (first | refine blk_drewN ?_ _ | refine blk_drew ?_ | refine blk_alloc ?_ _)); refine map_far ?_ NB546_548.out _; (with_reducible repeat (first | refine blk_drewN ?_ _ | refine blk_drew ?_ | refine blk_alloc ?_ _)); refine map_far ?_ NB546_548.out _; (with_reducible repeat (first | refine blk_drewN ?_ _ | refine blk_drew ?_ | refine blk_alloc ?_ _)); refine map_far ?_ NB546_548.out _; (with_reducible repeat (first | refine blk_drewN ?_ _ | refine blk_drew ?_ | refine blk_alloc ?_ _)); refine map_far ?_ NB546_548.out _; (with_reducible repeat (first | refine blk_drewN ?_ _ | refine blk_drew ?_ | refine blk_alloc ?_ _)); refine map_far ?_ NB546_548.out _; (with_reducible repeat (first | refine blk_drewN ?_ _ | refine blk_drew ?_ | refine blk_alloc ?_ _)); refine map_far ?_ NB546_548.out _; (with_reducible repeat (first | refine blk_drewN ?_ _ | refine blk_drew ?_ | refine blk_alloc ?_ _)); exact BK546.out) hb); have n3_ := Aside0.mk (blk_below (g := gb548) (o := .cells #[.string ((rd_T34 l0 x13_1).f0.f0), .string ((rd_T34 l0 x13_1).f0.f1), .string ((rd_T34 l0 x13_1).f0.f2), .string ((rd_T34 l0 x13_1).f0.f3), .string ((rd_T34 l0 x13_1).f0.f4), .int .i64 ((rd_T34 l0 x13_1).f1), .int .i64 ((rd_T34 l0 x13_1).f2)] 34 (0, 0)) (by (with_reducible repeat (first | refine blk_drewN ?_ _ | refine blk_drew ?_ | refine blk_alloc ?_ _)); refine blk_put (cs := #[.string ((rd_T34 l0 x13_1).f0.f0), .string ((rd_T34 l0 x13_1).f0.f1), .string ((rd_T34 l0 x13_1).f0.f2), .string ((rd_T34 l0 x13_1).f0.f3), .string ((rd_T34 l0 x13_1).f0.f4), .int .i64 ((rd_T34 l0 x13_1).f1), .int .i64 0]) ?_ 6 _ rfl; (with_reducible repeat (first | refine blk_drewN ?_ _ | refine blk_drew ?_ | refine blk_alloc ?_ _)); refine blk_put (cs := #[.string ((rd_T34 l0 x13_1).f0.f0), .string ((rd_T34 l0 x13_1).f0.f1), .string ((rd_T34 l0 x13_1).f0.f2), .string ((rd_T34 l0 x13_1).f0.f3), .string ((rd_T34 l0 x13_1).f0.f4), .int .i64 0, .int .i64 0]) ?_ 5 _ rfl; (with_reducible repeat (first | refine blk_drewN ?_ _ | refine blk_drew ?_ | refine blk_alloc ?_ _)); refine blk_put (cs := #[.string ((rd_T34 l0 x13_1).f0.f0), .string ((rd_T34 l0 x13_1).f0.f1), .string ((rd_T34 l0 x13_1).f0.f2), .string ((rd_T34 l0 x13_1).f0.f3), .string (⟨#[]⟩ : ByteArray), .int .i64 0, .int .i64 0]) ?_ 4 _ rfl; (with_reducible repeat (first | refine blk_drewN ?_ _ | refine blk_drew ?_ | refine blk_alloc ?_ _)); refine blk_put (cs := #[.string ((rd_T34 l0 x13_1).f0.f0), .string ((rd_T34 l0 x13_1).f0.f1), .string ((rd_T34 l0 x13_1).f0.f2), .string (⟨#[]⟩ : ByteArray), .string (⟨#[]⟩ : ByteArray), .int .i64 0, .int .i64 0]) ?_ 3 _ rfl; (with_reducible repeat (first | refine blk_drewN ?_ _ | refine blk_drew ?_ | refine blk_alloc ?_ _)); refine blk_put (cs := #[.string ((rd_T34 l0 x13_1).f0.f0), .string ((rd_T34 l0 x13_1).f0.f1), .string (⟨#[]⟩ : ByteArray), .string (⟨#[]⟩ : ByteArray), .string (⟨#[]⟩ : ByteArray), .int .i64 0, .int .i64 0]) ?_ 2 _ rfl; (with_reducible repeat (first | refine blk_drewN ?_ _ | refine blk_drew ?_ | refine blk_alloc ?_ _)); refine blk_put (cs := #[.string ((rd_T34 l0 x13_1).f0.f0), .string (⟨#[]⟩ : ByteArray), .string (⟨#[]⟩ : ByteArray), .string (⟨#[]⟩ : ByteArray), .string (⟨#[]⟩ : ByteArray), .int .i64 0, .int .i64 0]) ?_ 1 _ rfl; (with_reducible repeat (first | refine blk_drewN ?_ _ | refine blk_drew ?_ | refine blk_alloc ?_ _)); refine blk_put (cs := #[.string (⟨#[]⟩ : ByteArray), .string (⟨#[]⟩ : ByteArray), .string (⟨#[]⟩ : ByteArray), .string (⟨#[]⟩ : ByteArray), .string (⟨#[]⟩ : ByteArray), .int .i64 0, .int .i64 0]) ?_ 0 _ rfl; (with_reducible repeat (first | refine blk_drewN ?_ _ | refine blk_drew ?_ | refine blk_alloc ?_ _)); exact BK548.out) hb); have n4_ := Aside0.mk (below_step (by repeat (first | (with_reducible first | exact HB.out | apply below_alloc | apply pw_below_drewN | apply below_drew1 | refine below_set ?_ GE546.out | refine below_set ?_ GE548.out) | exact HB.out)) hb); clear HO_4; clear HO_5; clear BK546; clear BK548; clear HB; have HO_4 := n0_; have HO_5 := n1_; have BK546 := n2_; have BK548 := n3_; have HB := n4_; clear n0_ n1_ n2_ n3_ n4_; (try clear hb); (try clear hb2); (try clear hk); (try clear hi); have hcz23_0 : w22.cell? ⟨gb548, 0, none⟩ = some (.string ((rd_T34 l0 x13_1).f0.f0)) := (blk_cell BK548.out 0).trans rfl; have hcz23_1 : w22.cell? ⟨gb548, 1, none⟩ = some (.string ((rd_T34 l0 x13_1).f0.f1)) := (blk_cell BK548.out 1).trans rfl; have hcz23_2 : w22.cell? ⟨gb548, 2, none⟩ = some (.string ((rd_T34 l0 x13_1).f0.f2)) := (blk_cell BK548.out 2).trans rfl; have hcz23_3 : w22.cell? ⟨gb548, 3, none⟩ = some (.string ((rd_T34 l0 x13_1).f0.f3)) := (blk_cell BK548.out 3).trans rfl; have hcz23_4 : w22.cell? ⟨gb548, 4, none⟩ = some (.string ((rd_T34 l0 x13_1).f0.f4)) := (blk_cell BK548.out 4).trans rfl; have hcz23_5 : w22.cell? ⟨gb548, 5, none⟩ = some (.int .i64 ((rd_T34 l0 x13_1).f1)) := (blk_cell BK548.out 5).trans rfl; have hcz23_6 : w22.cell? ⟨gb548, 6, none⟩ = some (.int .i64 ((rd_T34 l0 x13_1).f2)) := (blk_cell BK548.out 6).trans rfl; have hfz23_0 := blk_frozen BK548.out 0; have hfz23_1 := blk_frozen BK548.out 1; have hfz23_2 := blk_frozen BK548.out 2; have hfz23_3 := blk_frozen BK548.out 3; have hfz23_4 := blk_frozen BK548.out 4; have hfz23_5 := blk_frozen BK548.out 5; have hfz23_6 := blk_frozen BK548.out 6) | ((with_reducible refine gate_builtin (b := .append) (xs := #[.tmp 25, .tmp 27]) rfl ?_); at_builtin; refine Kd.R_append k34 (w0 := w) w.heap.size rfl (.tmp 25) (.tmp 27) 22 34 (.agg #[(.string ⟨#[]⟩), (.string ⟨#[]⟩), (.string ⟨#[]⟩), (.string ⟨#[]⟩), (.string ⟨#[]⟩), (.int .i64 0), (.int .i64 0)]) 96 rfl Try.underlying22 info34 rfl (by decide) (by omega) u5 x5_1 (⟨(⟨(rd_T34 l0 x13_1).f0.f0, (rd_T34 l0 x13_1).f0.f1, (rd_T34 l0 x13_1).f0.f2, (rd_T34 l0 x13_1).f0.f3, (rd_T34 l0 x13_1).f0.f4⟩ : S32), (rd_T34 l0 x13_1).f1, (rd_T34 l0 x13_1).f2⟩ : S34) [.string ((rd_T34 l0 x13_1).f0.f0), .string ((rd_T34 l0 x13_1).f0.f1), .string ((rd_T34 l0 x13_1).f0.f2), .string ((rd_T34 l0 x13_1).f0.f3), .string ((rd_T34 l0 x13_1).f0.f4), .int .i64 ((rd_T34 l0 x13_1).f1), .int .i64 ((rd_T34 l0 x13_1).f2)] (fun k_ => some k_ ≠ (u4 : Value).ownBlock ∧ k_ ≠ gb548) (fun _ => False) rfl rfl ?aP (fun _ hk => hk.elim) ?aF ?aO ?aB ?aS ?aL ?_; (case aP => exact k34_mkM _ _ _ (⟨(⟨(rd_T34 l0 x13_1).f0.f0, (rd_T34 l0 x13_1).f0.f1, (rd_T34 l0 x13_1).f0.f2, (rd_T34 l0 x13_1).f0.f3, (rd_T34 l0 x13_1).f0.f4⟩ : S32), (rd_T34 l0 x13_1).f1, (rd_T34 l0 x13_1).f2⟩ : S34)); (case aB => exact (by repeat (first | (with_reducible first | exact HB.out | apply below_alloc | apply pw_below_drewN | apply below_drew1 | refine below_set ?_ GE546.out | refine below_set ?_ GE548.out) | exact HB.out))); (case aF => exact (fun k_ hk => ⟨Kd.fresh' (Kd.R_lt (by (with_reducible repeat (first | apply Kd.R_alloc | apply Kd.R_drewN | apply Kd.R_drew)); exact HO_4.out)) k_ hk, Kd.freshB (g := gb548) (o := .cells #[.string ((rd_T34 l0 x13_1).f0.f0), .string ((rd_T34 l0 x13_1).f0.f1), .string ((rd_T34 l0 x13_1).f0.f2), .string ((rd_T34 l0 x13_1).f0.f3), .string ((rd_T34 l0 x13_1).f0.f4), .int .i64 ((rd_T34 l0 x13_1).f1), .int .i64 ((rd_T34 l0 x13_1).f2)] 34 (0, 0)) (by (with_reducible repeat (first | refine blk_drewN ?_ _ | refine blk_drew ?_ | refine blk_alloc ?_ _)); exact BK548.out) k_ hk⟩)); (case aO => exact (by (with_reducible repeat (first | apply Kd.R_alloc | apply Kd.R_drewN | apply Kd.R_drew)); exact HO_5.out)); (case aS => exact (below_size (by repeat (first | (with_reducible first | exact HB.out | apply below_alloc | apply pw_below_drewN | apply below_drew1 | refine below_set ?_ GE546.out | refine below_set ?_ GE548.out) | exact HB.out)))); (case aL => have := LMc17.out; omega); intro v554 w24 ho hb hg hat; rw [← Ny553.out] at ho; have n0_ := Aside0.mk (Kd.R_after (ok := (fun k_ => k_ ≠ gb548)) (by (with_reducible repeat (first | apply Kd.R_alloc | apply Kd.R_drewN | apply Kd.R_drew)); exact Kd.R_mono HO_4.out (fun _ hk => ⟨hk.2, hk.1⟩)) hg hat); have n1_ := Aside0.mk (blk_grown (g := gb546) (o := .map es clk) (by (with_reducible repeat (first | refine blk_drewN ?_ _ | refine blk_drew ?_ | refine blk_alloc ?_ _)); exact BK546.out) hg (R_ne_map HO_5.out BK546.out)); have n2_ := Aside0.mk (blk_grown (g := gb548) (o := .cells #[.string ((rd_T34 l0 x13_1).f0.f0), .string ((rd_T34 l0 x13_1).f0.f1), .string ((rd_T34 l0 x13_1).f0.f2), .string ((rd_T34 l0 x13_1).f0.f3), .string ((rd_T34 l0 x13_1).f0.f4), .int .i64 ((rd_T34 l0 x13_1).f1), .int .i64 ((rd_T34 l0 x13_1).f2)] 34 (0, 0)) (by (with_reducible repeat (first | refine blk_drewN ?_ _ | refine blk_drew ?_ | refine blk_alloc ?_ _)); exact BK548.out) hg (Kd.R_away HO_5.out (fun _ hk => hk.2))); have n3_ := Aside0.mk (hb); have n4_ := Aside0.mk (ho); clear HO_4; clear BK546; clear BK548; clear HB; clear HO_5; have HO_4 := n0_; have BK546 := n1_; have BK548 := n2_; have HB := n3_; have HO555 := n4_; clear n0_ n1_ n2_ n3_ n4_; clear ho hb hg hat))
        go_roundg k1
        case measure => have := HK1.out; omega
        case rel => exact ⟨(x4_1), (y553), (wrap64 (x13_1 + 1)), (by first | rfl | (simp; done) | (simp [*]; done)), H', ⟨by have := HK1.out; omega⟩, ⟨by (with_reducible repeat (first | apply Kd.R_alloc | apply Kd.R_drewN | apply Kd.R_drew)); exact Kd.R_mono HO_4.out (fun _ hk => hk.2)⟩, ⟨by (with_reducible repeat (first | apply Kd.R_alloc | apply Kd.R_drewN | apply Kd.R_drew)); exact Kd.R_mono HO555.out (fun _ hk => hk.1)⟩, ⟨by (with_reducible repeat (first | refine blk_drewN ?_ _ | refine blk_drew ?_ | refine blk_alloc ?_ _)); exact BK546.out⟩, ⟨by repeat (first | (with_reducible first | exact HB.out | apply below_alloc | apply pw_below_drewN | apply below_drew1 | refine below_set ?_ GE546.out | refine below_set ?_ GE548.out) | exact HB.out)⟩⟩
       ·rw [if_neg c17] at H
        exact absurd H (by simp)
     ·rw [if_neg c6] at H
      exact absurd H (by simp)
    ·rw [if_neg c5] at H
     exact absurd H (by simp)
   ·rw [if_neg c4] at H
    have c4b0 : decide (x13_1 < (l0.length : Int)) = false := decide_eq_false c4
    clear c4
    simp only [Option.some.injEq, Prod.mk.injEq] at H
    obtain ⟨rfl, rfl⟩ := H
    go_wp2
    go_ret2
    exact ⟨_, _, by first | rfl | (simp [errW_none, errW_some] <;> rfl) | (simp [*, errW_none, errW_some] <;> rfl), by (with_reducible repeat (first | apply Kd.R_alloc | apply Kd.R_drewN | apply Kd.R_drew)); exact HO_4.out, by (with_reducible repeat (first | apply Kd.R_alloc | apply Kd.R_drewN | apply Kd.R_drew)); exact HO_5.out, by repeat (first | (with_reducible first | exact HB.out | apply below_alloc | apply pw_below_drewN | apply below_drew1 | refine below_set ?_ GE546.out) | exact HB.out)⟩
/-! ### interco_Eliminate: function 50 -/
mutual
def interco_Eliminate.l0 : Nat → ByteArray → ByteArray → List (S89) → List (S34) → List (S34) → Int → Int → Option ((List (S34)) × Int)
 | 0, _, _, _, _, _, _, _ => none
 | k + 1, x1, x2, x12, x13, x50, x51, x52 => if x52 < x51 then (if 0 ≤ x52 then (if x52 < (x50.length : Int) then (if x13.length < 1466015503701 then (interco_Eliminate.l0 k x1 x2 x12 (x13 ++ [(⟨(⟨(rd_T34 x50 x52).f0.f0, (rd_T34 x50 x52).f0.f1, (rd_T34 x50 x52).f0.f2, (rd_T34 x50 x52).f0.f3, (rd_T34 x50 x52).f0.f4⟩ : S32), wrap64 (-((rd_T34 x50 x52).f1)), wrap64 (-((rd_T34 x50 x52).f2))⟩ : S34)]) x50 x51 (wrap64 (x52 + 1))) else (none)) else (none)) else (none)) else (interco_Eliminate.l1 k x1 x2 x13 x12 (x12.length : Int) 0)
def interco_Eliminate.l1 : Nat → ByteArray → ByteArray → List (S34) → List (S89) → Int → Int → Option ((List (S34)) × Int)
 | 0, _, _, _, _, _, _ => none
 | k + 1, x1, x2, x13, x69, x70, x71 => if x71 < x70 then (if 0 ≤ x71 then (if x71 < (x69.length : Int) then (if ((rd_T89 x69 x71).f2) = 0 then (interco_Eliminate.l1 k x1 x2 x13 x69 x70 (wrap64 (x71 + 1))) else (if x13.length < 1466015503701 then (interco_Eliminate.l1 k x1 x2 (x13 ++ [(⟨(⟨(rd_T89 x69 x71).f0, x2, x1, (⟨#[]⟩ : ByteArray), (⟨#[]⟩ : ByteArray)⟩ : S32), (rd_T89 x69 x71).f2, (rd_T89 x69 x71).f2⟩ : S34)]) x69 x70 (wrap64 (x71 + 1))) else (none))) else (none)) else (none)) else ((sheet_Of.f x13).bind fun bt601 => (some (bt601.1, bt601.2)))
end
def interco_Eliminate.f (k : Nat) (l0 : List (S34)) (a1 : ByteArray) (a2 : ByteArray) (l3 : List ByteArray) : Option ((List (S34)) × Int) := (sheet_Right.f l0).bind fun t578 => (if t578 = true then ((money_Code.f a1).bind fun t579 => (if t579 = true then ((words_Code.f a2).bind fun t580 => (if t580 = true then ((interco_Inside.f k l0 l3).bind fun bt581 => ((interco_pairs.f bt581.1).bind fun bt587 => (if bt587.2 = 0 then (interco_Eliminate.l0 k a1 a2 bt587.1 ([] : List (S34)) bt581.1 (bt581.1.length : Int) 0) else (some (([] : List (S34)), bt587.2))))) else (some (([] : List (S34)), 7)))) else (some (([] : List (S34)), 13)))) else (some (([] : List (S34)), 2)))
theorem interco_Eliminate.mono_l : ∀ k, (∀ y0 y1 y2 y3 y4 y5 y6, LeO (interco_Eliminate.l0 k y0 y1 y2 y3 y4 y5 y6) (interco_Eliminate.l0 (k + 1) y0 y1 y2 y3 y4 y5 y6)) ∧ (∀ y0 y1 y2 y3 y4 y5, LeO (interco_Eliminate.l1 k y0 y1 y2 y3 y4 y5) (interco_Eliminate.l1 (k + 1) y0 y1 y2 y3 y4 y5))
 | 0 => ⟨fun _ _ _ _ _ _ _ r h => by simp [interco_Eliminate.l0] at h, fun _ _ _ _ _ _ r h => by simp [interco_Eliminate.l1] at h⟩
 | k + 1 => by
  obtain ⟨ih0, ih1⟩ := interco_Eliminate.mono_l k
  refine ⟨?_, ?_⟩
  ·intro y0 y1 y2 y3 y4 y5 y6
   unfold interco_Eliminate.l0
   repeat' first
   | (with_reducible exact ih0 _ _ _ _ _ _ _)
   | (with_reducible exact ih1 _ _ _ _ _ _)
   | (with_reducible exact interco_Inside.mono _ _ _)
   | (with_reducible exact LeO.refl _)
   | (with_reducible exact LeO.none _)
   | (with_reducible refine LeO.ite ?_ ?_)
   | (with_reducible refine LeO.bind ?_ (fun _ => ?_))
   | exact ih0 _ _ _ _ _ _ _
   | exact ih1 _ _ _ _ _ _
   | exact interco_Inside.mono _ _ _
   | exact LeO.none _
   | refine LeO.ite ?_ ?_
   | refine LeO.bind ?_ (fun _ => ?_)
  ·intro y0 y1 y2 y3 y4 y5
   unfold interco_Eliminate.l1
   repeat' first
   | (with_reducible exact ih0 _ _ _ _ _ _ _)
   | (with_reducible exact ih1 _ _ _ _ _ _)
   | (with_reducible exact interco_Inside.mono _ _ _)
   | (with_reducible exact LeO.refl _)
   | (with_reducible exact LeO.none _)
   | (with_reducible refine LeO.ite ?_ ?_)
   | (with_reducible refine LeO.bind ?_ (fun _ => ?_))
   | exact ih0 _ _ _ _ _ _ _
   | exact ih1 _ _ _ _ _ _
   | exact interco_Inside.mono _ _ _
   | exact LeO.none _
   | refine LeO.ite ?_ ?_
   | refine LeO.bind ?_ (fun _ => ?_)
theorem interco_Eliminate.mono : ∀ a0 a1 a2 a3 k, LeO (interco_Eliminate.f k a0 a1 a2 a3) (interco_Eliminate.f (k + 1) a0 a1 a2 a3) := by
 intro a0 a1 a2 a3 k
 obtain ⟨ih0, ih1⟩ := interco_Eliminate.mono_l k
 unfold interco_Eliminate.f
 repeat' first
   | (with_reducible exact ih0 _ _ _ _ _ _ _)
   | (with_reducible exact ih1 _ _ _ _ _ _)
   | (with_reducible exact interco_Inside.mono _ _ _)
   | (with_reducible exact LeO.refl _)
   | (with_reducible exact LeO.none _)
   | (with_reducible refine LeO.ite ?_ ?_)
   | (with_reducible refine LeO.bind ?_ (fun _ => ?_))
   | exact ih0 _ _ _ _ _ _ _
   | exact ih1 _ _ _ _ _ _
   | exact interco_Inside.mono _ _ _
   | exact LeO.none _
   | refine LeO.ite ?_ ?_
   | refine LeO.bind ?_ (fun _ => ?_)
set_option maxHeartbeats 8000000 in
set_option maxRecDepth 100000 in
theorem interco_Eliminate.calls (k : Nat) (A0 : Option Addr) (c0 : Nat) (l0 : List (S34)) (a1 : ByteArray) (a2 : ByteArray) (A3 : Option Addr) (c3 : Nat) (l3 : List ByteArray) (r1 : List (S34)) (r2 : Int) (w : World) (hr0 : Kd.C k34 w A0 l0.length l0) (hc0 : l0.length ≤ c0) (hr3 : Kd.C Kd.string w A3 l3.length l3) (hc3 : l3.length ≤ c3) (h : interco_Eliminate.f k l0 a1 a2 l3 = some (r1, r2)) :
  Calls Try.prog 50 #[.slice A0 l0.length c0, .string a1, .string a2, .slice A3 l3.length c3] w fun e w' => ∃ v0_ : Value, e = .returned (.tuple #[v0_, .int .i64 r2]) ∧ Kd.R k34 34 w' w.heap.size (fun _ => True) v0_ r1 ∧ Below w.heap.size w w' := by
 have hu34 := Try.underlying34
 have hu32 := Try.underlying32
 have hu89 := Try.underlying89
 have HR0 := Aside0.mk hr0
 have HC0 := Aside0.mk hc0
 clear hr0 hc0
 have HR3 := Aside0.mk hr3
 have HC3 := Aside0.mk hc3
 clear hr3 hc3
 have HB := Aside0.mk (Below.refl w.heap.size w)
 have H : ((sheet_Right.f l0).bind fun t578 => (if t578 = true then ((money_Code.f a1).bind fun t579 => (if t579 = true then ((words_Code.f a2).bind fun t580 => (if t580 = true then ((interco_Inside.f k l0 l3).bind fun bt581 => ((interco_pairs.f bt581.1).bind fun bt587 => (if bt587.2 = 0 then (interco_Eliminate.l0 k a1 a2 bt587.1 ([] : List (S34)) bt581.1 (bt581.1.length : Int) 0) else (some (([] : List (S34)), bt587.2))))) else (some (([] : List (S34)), 7)))) else (some (([] : List (S34)), 13)))) else (some (([] : List (S34)), 2)))) = some (r1, r2) := h
 clear h
 replace H := Option.bind_eq_some_iff.mp H
 obtain ⟨t578, A50, H⟩ := H
 try dsimp only at H
 have A5 := Aside0.mk A50
 clear A50
 by_cases c6 : t578 = true
 ·subst c6
  have H1 : ((money_Code.f a1).bind fun t579 => (if t579 = true then ((words_Code.f a2).bind fun t580 => (if t580 = true then ((interco_Inside.f k l0 l3).bind fun bt581 => ((interco_pairs.f bt581.1).bind fun bt587 => (if bt587.2 = 0 then (interco_Eliminate.l0 k a1 a2 bt587.1 ([] : List (S34)) bt581.1 (bt581.1.length : Int) 0) else (some (([] : List (S34)), bt587.2))))) else (some (([] : List (S34)), 7)))) else (some (([] : List (S34)), 13)))) = some (r1, r2) := by rw [if_pos rfl] at H; exact H
  clear H
  have H := H1
  clear H1
  replace H := Option.bind_eq_some_iff.mp H
  obtain ⟨t579, A70, H⟩ := H
  try dsimp only at H
  have A7 := Aside0.mk A70
  clear A70
  by_cases c8 : t579 = true
  ·subst c8
   have H1 : ((words_Code.f a2).bind fun t580 => (if t580 = true then ((interco_Inside.f k l0 l3).bind fun bt581 => ((interco_pairs.f bt581.1).bind fun bt587 => (if bt587.2 = 0 then (interco_Eliminate.l0 k a1 a2 bt587.1 ([] : List (S34)) bt581.1 (bt581.1.length : Int) 0) else (some (([] : List (S34)), bt587.2))))) else (some (([] : List (S34)), 7)))) = some (r1, r2) := by rw [if_pos rfl] at H; exact H
   clear H
   have H := H1
   clear H1
   replace H := Option.bind_eq_some_iff.mp H
   obtain ⟨t580, A90, H⟩ := H
   try dsimp only at H
   have A9 := Aside0.mk A90
   clear A90
   by_cases c10 : t580 = true
   ·subst c10
    have H1 : ((interco_Inside.f k l0 l3).bind fun bt581 => ((interco_pairs.f bt581.1).bind fun bt587 => (if bt587.2 = 0 then (interco_Eliminate.l0 k a1 a2 bt587.1 ([] : List (S34)) bt581.1 (bt581.1.length : Int) 0) else (some (([] : List (S34)), bt587.2))))) = some (r1, r2) := by rw [if_pos rfl] at H; exact H
    clear H
    have H := H1
    clear H1
    replace H := Option.bind_eq_some_iff.mp H
    obtain ⟨⟨t581, t582⟩, A110, H⟩ := H
    try dsimp only at H
    have A11 := Aside0.mk A110
    clear A110
    replace H := Option.bind_eq_some_iff.mp H
    obtain ⟨⟨t587, t588⟩, A120, H⟩ := H
    try dsimp only at H
    have A12 := Aside0.mk A120
    clear A120
    by_cases c13 : t588 = 0
    ·rw [if_pos c13] at H
     have c13b0 : (t588 == 0) = true := beq_iff_eq.mpr c13
     have c13b1 : (t588 != 0) = false := bne_eq_false_iff_eq.mpr c13
     clear c13
     have H' := Aside0.mk H
     clear H
     have HLEN := Aside0.mk (pairs_len A12.out)
     go_enter Try.func50, Try.ntmps50
     go_wp2_with (first | ((with_reducible refine gate_callee (f := 22) rfl ?_); refine goesL_ (some 20) rfl rfl Try.func22 (by kernel_rfl) rfl #[.slice A0 l0.length c0] rfl (by (try simp only [List.map_toArray, List.map_cons, List.map_nil]); first | done | rfl | (simp only [List.length_drop, List.length_take]; rfl)) ?_; (with_reducible refine (sheet_Right.calls _ _ l0 true _ ?side1 ?side2 A5.out).mono ?_); (case side1 => repeat (first | exact HR0.out | (with_reducible refine Kd.C_alloc ?_ _) | (with_reducible refine Kd.C_drewN ?_ _) | (with_reducible refine Kd.C_drew ?_))); (case side2 => exact HC0.out); rintro e w14 ⟨rfl, hb⟩; refine ⟨_, rfl, ?_⟩; have n0_ := Aside0.mk (below_step (by repeat (first | (with_reducible first | exact HB.out | apply below_alloc | apply pw_below_drewN | apply below_drew1) | exact HB.out)) hb); clear HB; have HB := n0_; clear n0_; (try clear hb); (try clear hb2); (try clear hk); (try clear hi)) | ((with_reducible refine gate_callee (f := 77) rfl ?_); refine goesL_ (some 24) rfl rfl Try.func77 (by kernel_rfl) rfl #[.string a1] rfl (by (try simp only [List.map_toArray, List.map_cons, List.map_nil]); first | done | rfl | (simp only [List.length_drop, List.length_take]; rfl)) ?_; (with_reducible refine (money_Code.calls a1 true _ A7.out).mono ?_); rintro e w15 ⟨rfl, hb⟩; refine ⟨_, rfl, ?_⟩; have n0_ := Aside0.mk (below_step (by repeat (first | (with_reducible first | exact HB.out | apply below_alloc | apply pw_below_drewN | apply below_drew1) | exact HB.out)) hb); clear HB; have HB := n0_; clear n0_; (try clear hb); (try clear hb2); (try clear hk); (try clear hi)) | ((with_reducible refine gate_callee (f := 78) rfl ?_); refine goesL_ (some 28) rfl rfl Try.func78 (by kernel_rfl) rfl #[.string a2] rfl (by (try simp only [List.map_toArray, List.map_cons, List.map_nil]); first | done | rfl | (simp only [List.length_drop, List.length_take]; rfl)) ?_; (with_reducible refine (words_Code.calls a2 true _ A9.out).mono ?_); rintro e w' ⟨rfl, ⟨nd, rfl⟩⟩; refine ⟨_, rfl, ?_⟩) | ((with_reducible refine gate_callee (f := 44) rfl ?_); refine goesL_ (some 33) rfl rfl Try.func44 (by kernel_rfl) rfl #[.slice A0 l0.length c0, .slice A3 l3.length c3] rfl (by (try simp only [List.map_toArray, List.map_cons, List.map_nil]); first | done | rfl | (simp only [List.length_drop, List.length_take]; rfl)) ?_; (with_reducible refine (interco_Inside.calls k _ _ l0 _ _ l3 t581 t582 _ ?side1 ?side2 ?side3 ?side4 A11.out).mono ?_); (case side1 => repeat (first | exact (Kd.C_below HR0.out (by repeat (first | (with_reducible first | exact HB.out | apply below_alloc | apply pw_below_drewN | apply below_drew1) | exact HB.out))) | (with_reducible refine Kd.C_alloc ?_ _) | (with_reducible refine Kd.C_drewN ?_ _) | (with_reducible refine Kd.C_drew ?_))); (case side2 => exact HC0.out); (case side3 => repeat (first | exact (Kd.C_below HR3.out (by repeat (first | (with_reducible first | exact HB.out | apply below_alloc | apply pw_below_drewN | apply below_drew1) | exact HB.out))) | (with_reducible refine Kd.C_alloc ?_ _) | (with_reducible refine Kd.C_drewN ?_ _) | (with_reducible refine Kd.C_drew ?_))); (case side4 => exact HC3.out); rintro e w16 ⟨v583, v585, rfl, ho0, ho1, hb⟩; refine ⟨_, rfl, ?_⟩; have n0_ := Aside0.mk (Kd.R_lower ho0 (below_size (by repeat (first | (with_reducible first | exact HB.out | apply below_alloc | apply pw_below_drewN | apply below_drew1) | exact HB.out)))); have n1_ := Aside0.mk (Kd.R_lower ho1 (below_size (by repeat (first | (with_reducible first | exact HB.out | apply below_alloc | apply pw_below_drewN | apply below_drew1) | exact HB.out)))); have n2_ := Aside0.mk (below_step (by repeat (first | (with_reducible first | exact HB.out | apply below_alloc | apply pw_below_drewN | apply below_drew1) | exact HB.out)) hb); clear HB; have HO584 := n0_; have HO586 := n1_; have HB := n2_; clear n0_ n1_ n2_; (try clear hb); (try clear hb2); (try clear hk); (try clear hi); (try clear ho0); (try clear ho1); obtain ⟨Ao17, co17, eo17⟩ := Kd.R_slice HO584.out; subst eo17) | ((with_reducible refine gate_callee (f := 75) rfl ?_); refine goesL_ (some 38) rfl rfl Try.func75 (by kernel_rfl) rfl #[.slice Ao17 t581.length co17] rfl (by (try simp only [List.map_toArray, List.map_cons, List.map_nil]); first | done | rfl | (simp only [List.length_drop, List.length_take]; rfl)) ?_; (with_reducible refine (interco_pairs.calls _ _ t581 t587 t588 _ ?side1 ?side2 A12.out).mono ?_); (case side1 => repeat (first | exact (Kd.R_reads' HO584.out).2.2 | (with_reducible refine Kd.C_alloc ?_ _) | (with_reducible refine Kd.C_drewN ?_ _) | (with_reducible refine Kd.C_drew ?_))); (case side2 => exact (Kd.R_reads' HO584.out).2.1); rintro e w18 ⟨v589, rfl, ho0, hb⟩; refine ⟨_, rfl, ?_⟩; have n0_ := Aside0.mk (Kd.R_below (by (with_reducible repeat (first | apply Kd.R_alloc | apply Kd.R_drewN | apply Kd.R_drew)); exact HO584.out) hb); have n1_ := Aside0.mk (Kd.R_below (by (with_reducible repeat (first | apply Kd.R_alloc | apply Kd.R_drewN | apply Kd.R_drew)); exact HO586.out) hb); have n2_ := Aside0.mk (Kd.R_lower ho0 (below_size (by repeat (first | (with_reducible first | exact HB.out | apply below_alloc | apply pw_below_drewN | apply below_drew1) | exact HB.out)))); have n3_ := Aside0.mk (below_step (by repeat (first | (with_reducible first | exact HB.out | apply below_alloc | apply pw_below_drewN | apply below_drew1) | exact HB.out)) hb); clear HO584; clear HO586; clear HB; have HO584 := n0_; have HO586 := n1_; have HO590 := n2_; have HB := n3_; clear n0_ n1_ n2_ n3_; (try clear hb); (try clear hb2); (try clear hk); (try clear hi); (try clear ho0); obtain ⟨Ao19, co19, eo19⟩ := Kd.R_slice HO590.out; subst eo19) | ((with_reducible refine gate_dst (N := 49) rfl ?_); refine mk_event rfl rfl (.tmp 48) rfl (t581.length + t587.length) rfl ?hm ?hc w.heap.size ?hb ?_; (case hm => have hl_ := HLEN.out; first | (unfold wrap64; omega) | (simp [wrap64]; omega) | (rw [i64_w]; unfold wrap64; omega)); (case hc => have hl_ := HLEN.out; omega); (case hb => exact below_size (by repeat (first | (with_reducible first | exact HB.out | apply below_alloc | apply pw_below_drewN | apply below_drew1) | exact HB.out))); intro g49 w49 hg ho49 hb; have n0_ := Aside0.mk (Kd.R_below (Kd.R_elderB (by (with_reducible repeat (first | apply Kd.R_alloc | apply Kd.R_drewN | apply Kd.R_drew)); exact HO584.out) g49 (Nat.le_of_eq hg.symm)) hb); have n2_ := Aside0.mk (Kd.R_below (by (with_reducible repeat (first | apply Kd.R_alloc | apply Kd.R_drewN | apply Kd.R_drew)); exact HO590.out) hb); have n3_ := Aside0.mk (below_step (by repeat (first | (with_reducible first | exact HB.out | apply below_alloc | apply pw_below_drewN | apply below_drew1) | exact HB.out)) hb); have HO49 := Aside0.mk ho49; clear HO584; clear HO586; clear HO590; clear HB; have HO584 := n0_; have HO590 := n2_; have HB := n3_; clear n0_ n2_ n3_; clear ho49 hb hg))
     go_loopg [13, 52] k (fun kq v13 v52 w' => ∃ (x13_1 : List (S34)) (x52_1 : Int), v52 = .int .i64 x52_1 ∧ Aside0 (interco_Eliminate.l0 kq a1 a2 t587 x13_1 t581 (t581.length : Int) x52_1 = some (r1, r2)) ∧ Aside0 (kq ≤ k) ∧ Aside0 (Kd.R k89 89 w' w.heap.size (fun _ => True) (.slice Ao19 t587.length co19) t587) ∧ Aside0 (Kd.R k34 34 w' w.heap.size (fun k_ => some k_ ≠ ((.slice Ao17 t581.length co17) : Value).ownBlock) v13 x13_1) ∧ Aside0 (Kd.R k34 34 w' w.heap.size (fun k_ => some k_ ≠ (v13 : Value).ownBlock) (.slice Ao17 t581.length co17) t581) ∧ Aside0 (Below w.heap.size w w'))
     case atStart => exact ⟨([] : List S34), 0, rfl, H', ⟨Nat.le_refl _⟩, ⟨by (with_reducible repeat (first | apply Kd.R_alloc | apply Kd.R_drewN | apply Kd.R_drew)); exact HO590.out⟩, ⟨R_empty HO49.out (fun e_ => (HO584.out.1 _ e_.symm).2 rfl)⟩, ⟨Kd.R_mono HO584.out (fun k_ hk e_ => hk.2 (by simpa [Value.ownBlock] using e_))⟩, ⟨by repeat (first | (with_reducible first | exact HB.out | apply below_alloc | apply pw_below_drewN | apply below_drew1) | exact HB.out)⟩⟩
     case round =>
      clear H'
      try clear c1
      try clear c2
      try clear p2
      try clear c3
      try clear c4
      try clear c5
      try clear c6
      try clear c7
      try clear c8
      try clear c10
      try clear c13
      try clear c13b0
      try clear c13b1
      obtain ⟨x13_1, x52_1, rfl, HA, HK1, HO_12, HO_13, HO_50, HB⟩ := hrel
      cases gk with
      | zero => exact absurd HA.out (by simp [interco_Eliminate.l0])
      | succ k1 =>
       have H := HA.out
       clear HA
       simp only [interco_Eliminate.l0] at H
       by_cases c20 : x52_1 < (t581.length : Int)
       ·rw [if_pos c20] at H
        have c20b0 : decide (x52_1 < (t581.length : Int)) = true := decide_eq_true c20
        clear c20
        by_cases c21 : 0 ≤ x52_1
        ·rw [if_pos c21] at H
         have c21b0 : decide (0 ≤ x52_1) = true := decide_eq_true c21
         clear c21
         by_cases c22 : x52_1 < (t581.length : Int)
         ·rw [if_pos c22] at H
          have c22b0 : decide (x52_1 < (t581.length : Int)) = true := decide_eq_true c22
          clear c22
          by_cases c23 : x13_1.length < 1466015503701
          ·rw [if_pos c23] at H
           have LMc23 := Aside0.mk c23
           clear c23
           obtain ⟨y593, hy593⟩ : ∃ y_ : List (S34), y_ = (x13_1 ++ [(⟨(⟨(rd_T34 t581 x52_1).f0.f0, (rd_T34 t581 x52_1).f0.f1, (rd_T34 t581 x52_1).f0.f2, (rd_T34 t581 x52_1).f0.f3, (rd_T34 t581 x52_1).f0.f4⟩ : S32), wrap64 (-((rd_T34 t581 x52_1).f1)), wrap64 (-((rd_T34 t581 x52_1).f2))⟩ : S34)]) := ⟨_, rfl⟩
           replace H : (interco_Eliminate.l0 k1 a1 a2 t587 y593 t581 (t581.length : Int) (wrap64 (x52_1 + 1))) = some (r1, r2) := by first | (rw [hy593]; with_reducible exact H) | (have H2_ := (Option.bind_some _ _).symm.trans H; rw [hy593]; with_reducible exact H2_) | (have H2_ := (Option.bind_some _ _).symm.trans H; with_reducible exact H2_) | with_reducible exact H | (rw [hy593]; exact H) | exact H
           have Ny593 := Aside0.mk hy593
           clear hy593
           have H' := Aside0.mk H
           clear H
           have p591 : 0 ≤ (x52_1 : Int) := of_decide_eq_true (by first | (with_reducible assumption) | assumption)
           have q591 : x52_1 < (t581.length : Int) := of_decide_eq_true (by first | (with_reducible assumption) | assumption)
           obtain ⟨ad591, e591, hx591_0, hx591_1, hx591_2, hx591_3, hx591_4, hx591_5, hx591_6⟩ := at_T34 (Kd.R_reads' HO_50.out).2.2 x52_1 p591 q591
           cases e591
           replace p591 := eq_true p591
           replace q591 := eq_true q591
           go_wp2_with (first | ((with_reducible refine gate_dst (N := 15) rfl ?_); refine box_event ?hg (N := 15) ?hd (cs := #[.string (⟨#[]⟩ : ByteArray), .string (⟨#[]⟩ : ByteArray), .string (⟨#[]⟩ : ByteArray), .string (⟨#[]⟩ : ByteArray), .string (⟨#[]⟩ : ByteArray), .int .i64 0, .int .i64 0]) (t := 34) ?hr ?_; (case hd => rfl); (case hg => rfl); (case hr => first | (go_simp; done) | (go_simp; rfl)); intro gb592 hg w24 hbox hb; have n0_ := Aside0.mk (Kd.R_below (by (with_reducible repeat (first | apply Kd.R_alloc | apply Kd.R_drewN | apply Kd.R_drew)); exact HO_12.out) hb); have n1_ := Aside0.mk (Kd.R_below (Kd.R_elderB (by (with_reducible repeat (first | apply Kd.R_alloc | apply Kd.R_drewN | apply Kd.R_drew)); exact HO_13.out) gb592 (Nat.le_of_eq hg.symm)) hb); have n2_ := Aside0.mk (Kd.R_below (Kd.R_elderB (by (with_reducible repeat (first | apply Kd.R_alloc | apply Kd.R_drewN | apply Kd.R_drew)); exact HO_50.out) gb592 (Nat.le_of_eq hg.symm)) hb); have n3_ := Aside0.mk (below_step (by repeat (first | (with_reducible first | exact HB.out | apply below_alloc | apply pw_below_drewN | apply below_drew1) | exact HB.out)) hb); have n4_ := Aside0.mk (hbox); have n5_ := Aside0.mk ((by rw [hg]; exact (below_size (by repeat (first | (with_reducible first | exact HB.out | apply below_alloc | apply pw_below_drewN | apply below_drew1) | exact HB.out))) : w.heap.size ≤ gb592)); have n6_ := Aside0.mk ((by rw [hg]; exact (below_size (by repeat (first | (with_reducible first | exact HB.out | apply below_alloc | apply pw_below_drewN | apply below_drew1) | exact HB.out))) : w.heap.size ≤ gb592)); clear HO_12; clear HO_13; clear HO_50; clear HB; have HO_12 := n0_; have HO_13 := n1_; have HO_50 := n2_; have HB := n3_; have BK592 := n4_; have GW592 := n5_; have GE592 := n6_; clear n0_ n1_ n2_ n3_ n4_ n5_ n6_; clear hb hbox hg; have hcz25_0 : w24.cell? ⟨gb592, 0, none⟩ = some (.string (⟨#[]⟩ : ByteArray)) := (blk_cell BK592.out 0).trans rfl; have hcz25_1 : w24.cell? ⟨gb592, 1, none⟩ = some (.string (⟨#[]⟩ : ByteArray)) := (blk_cell BK592.out 1).trans rfl; have hcz25_2 : w24.cell? ⟨gb592, 2, none⟩ = some (.string (⟨#[]⟩ : ByteArray)) := (blk_cell BK592.out 2).trans rfl; have hcz25_3 : w24.cell? ⟨gb592, 3, none⟩ = some (.string (⟨#[]⟩ : ByteArray)) := (blk_cell BK592.out 3).trans rfl; have hcz25_4 : w24.cell? ⟨gb592, 4, none⟩ = some (.string (⟨#[]⟩ : ByteArray)) := (blk_cell BK592.out 4).trans rfl; have hcz25_5 : w24.cell? ⟨gb592, 5, none⟩ = some (.int .i64 0) := (blk_cell BK592.out 5).trans rfl; have hcz25_6 : w24.cell? ⟨gb592, 6, none⟩ = some (.int .i64 0) := (blk_cell BK592.out 6).trans rfl; have hfz25_0 := blk_frozen BK592.out 0; have hfz25_1 := blk_frozen BK592.out 1; have hfz25_2 := blk_frozen BK592.out 2; have hfz25_3 := blk_frozen BK592.out 3; have hfz25_4 := blk_frozen BK592.out 4; have hfz25_5 := blk_frozen BK592.out 5; have hfz25_6 := blk_frozen BK592.out 6) | ((with_reducible refine gate_builtin (b := .append) (xs := #[.tmp 56, .tmp 66]) rfl ?_); at_builtin; refine Kd.R_append k34 (w0 := w) w.heap.size rfl (.tmp 56) (.tmp 66) 22 34 (.agg #[(.string ⟨#[]⟩), (.string ⟨#[]⟩), (.string ⟨#[]⟩), (.string ⟨#[]⟩), (.string ⟨#[]⟩), (.int .i64 0), (.int .i64 0)]) 96 rfl Try.underlying22 info34 rfl (by decide) (by omega) u13 x13_1 (⟨(⟨(rd_T34 t581 x52_1).f0.f0, (rd_T34 t581 x52_1).f0.f1, (rd_T34 t581 x52_1).f0.f2, (rd_T34 t581 x52_1).f0.f3, (rd_T34 t581 x52_1).f0.f4⟩ : S32), wrap64 (-((rd_T34 t581 x52_1).f1)), wrap64 (-((rd_T34 t581 x52_1).f2))⟩ : S34) [.string ((rd_T34 t581 x52_1).f0.f0), .string ((rd_T34 t581 x52_1).f0.f1), .string ((rd_T34 t581 x52_1).f0.f2), .string ((rd_T34 t581 x52_1).f0.f3), .string ((rd_T34 t581 x52_1).f0.f4), .int .i64 (wrap64 (-((rd_T34 t581 x52_1).f1))), .int .i64 (wrap64 (-((rd_T34 t581 x52_1).f2)))] (fun k_ => some k_ ≠ (.slice (some ad591) t581.length co17 : Value).ownBlock ∧ k_ ≠ gb592) (fun _ => False) rfl (by first | (go_simp; done) | (go_simp; rfl)) ?aP (fun _ hk => hk.elim) ?aF ?aO ?aB ?aS ?aL ?_; (case aP => exact k34_mkM _ _ _ (⟨(⟨(rd_T34 t581 x52_1).f0.f0, (rd_T34 t581 x52_1).f0.f1, (rd_T34 t581 x52_1).f0.f2, (rd_T34 t581 x52_1).f0.f3, (rd_T34 t581 x52_1).f0.f4⟩ : S32), wrap64 (-((rd_T34 t581 x52_1).f1)), wrap64 (-((rd_T34 t581 x52_1).f2))⟩ : S34)); (case aB => exact (by repeat (first | (with_reducible first | exact HB.out | apply below_alloc | apply pw_below_drewN | apply below_drew1 | refine below_set ?_ GE592.out) | exact HB.out))); (case aF => exact (fun k_ hk => ⟨Kd.fresh' (Kd.R_lt (by (with_reducible repeat (first | apply Kd.R_alloc | apply Kd.R_drewN | apply Kd.R_drew)); exact (Kd.R_mono (Kd.R_far (p := ⟨gb592, 6, none⟩) (Kd.R_far (p := ⟨gb592, 5, none⟩) (Kd.R_far (p := ⟨gb592, 4, none⟩) (Kd.R_far (p := ⟨gb592, 3, none⟩) (Kd.R_far (p := ⟨gb592, 2, none⟩) (Kd.R_far (p := ⟨gb592, 1, none⟩) (Kd.R_far (p := ⟨gb592, 0, none⟩) (Kd.R_mono HO_50.out (fun k_ hk => (⟨hk, hk.2⟩ : _ ∧ k_ ≠ gb592))) (fun _ hk => hk.2) (.string ((rd_T34 t581 x52_1).f0.f0))) (fun _ hk => hk.2) (.string ((rd_T34 t581 x52_1).f0.f1))) (fun _ hk => hk.2) (.string ((rd_T34 t581 x52_1).f0.f2))) (fun _ hk => hk.2) (.string ((rd_T34 t581 x52_1).f0.f3))) (fun _ hk => hk.2) (.string ((rd_T34 t581 x52_1).f0.f4))) (fun _ hk => hk.2) (.int .i64 ((rd_T34 t581 x52_1).f1))) (fun _ hk => hk.2) (.int .i64 ((rd_T34 t581 x52_1).f2))) (fun _ h_ => h_.1)))) k_ hk, Kd.freshB (g := gb592) (o := .cells #[.string ((rd_T34 t581 x52_1).f0.f0), .string ((rd_T34 t581 x52_1).f0.f1), .string ((rd_T34 t581 x52_1).f0.f2), .string ((rd_T34 t581 x52_1).f0.f3), .string ((rd_T34 t581 x52_1).f0.f4), .int .i64 ((rd_T34 t581 x52_1).f1), .int .i64 ((rd_T34 t581 x52_1).f2)] 34 (0, 0)) (by (with_reducible repeat (first | refine blk_drewN ?_ _ | refine blk_drew ?_ | refine blk_alloc ?_ _)); refine blk_put (cs := #[.string ((rd_T34 t581 x52_1).f0.f0), .string ((rd_T34 t581 x52_1).f0.f1), .string ((rd_T34 t581 x52_1).f0.f2), .string ((rd_T34 t581 x52_1).f0.f3), .string ((rd_T34 t581 x52_1).f0.f4), .int .i64 ((rd_T34 t581 x52_1).f1), .int .i64 0]) ?_ 6 _ rfl; (with_reducible repeat (first | refine blk_drewN ?_ _ | refine blk_drew ?_ | refine blk_alloc ?_ _)); refine blk_put (cs := #[.string ((rd_T34 t581 x52_1).f0.f0), .string ((rd_T34 t581 x52_1).f0.f1), .string ((rd_T34 t581 x52_1).f0.f2), .string ((rd_T34 t581 x52_1).f0.f3), .string ((rd_T34 t581 x52_1).f0.f4), .int .i64 0, .int .i64 0]) ?_ 5 _ rfl; (with_reducible repeat (first | refine blk_drewN ?_ _ | refine blk_drew ?_ | refine blk_alloc ?_ _)); refine blk_put (cs := #[.string ((rd_T34 t581 x52_1).f0.f0), .string ((rd_T34 t581 x52_1).f0.f1), .string ((rd_T34 t581 x52_1).f0.f2), .string ((rd_T34 t581 x52_1).f0.f3), .string (⟨#[]⟩ : ByteArray), .int .i64 0, .int .i64 0]) ?_ 4 _ rfl; (with_reducible repeat (first | refine blk_drewN ?_ _ | refine blk_drew ?_ | refine blk_alloc ?_ _)); refine blk_put (cs := #[.string ((rd_T34 t581 x52_1).f0.f0), .string ((rd_T34 t581 x52_1).f0.f1), .string ((rd_T34 t581 x52_1).f0.f2), .string (⟨#[]⟩ : ByteArray), .string (⟨#[]⟩ : ByteArray), .int .i64 0, .int .i64 0]) ?_ 3 _ rfl; (with_reducible repeat (first | refine blk_drewN ?_ _ | refine blk_drew ?_ | refine blk_alloc ?_ _)); refine blk_put (cs := #[.string ((rd_T34 t581 x52_1).f0.f0), .string ((rd_T34 t581 x52_1).f0.f1), .string (⟨#[]⟩ : ByteArray), .string (⟨#[]⟩ : ByteArray), .string (⟨#[]⟩ : ByteArray), .int .i64 0, .int .i64 0]) ?_ 2 _ rfl; (with_reducible repeat (first | refine blk_drewN ?_ _ | refine blk_drew ?_ | refine blk_alloc ?_ _)); refine blk_put (cs := #[.string ((rd_T34 t581 x52_1).f0.f0), .string (⟨#[]⟩ : ByteArray), .string (⟨#[]⟩ : ByteArray), .string (⟨#[]⟩ : ByteArray), .string (⟨#[]⟩ : ByteArray), .int .i64 0, .int .i64 0]) ?_ 1 _ rfl; (with_reducible repeat (first | refine blk_drewN ?_ _ | refine blk_drew ?_ | refine blk_alloc ?_ _)); refine blk_put (cs := #[.string (⟨#[]⟩ : ByteArray), .string (⟨#[]⟩ : ByteArray), .string (⟨#[]⟩ : ByteArray), .string (⟨#[]⟩ : ByteArray), .string (⟨#[]⟩ : ByteArray), .int .i64 0, .int .i64 0]) ?_ 0 _ rfl; (with_reducible repeat (first | refine blk_drewN ?_ _ | refine blk_drew ?_ | refine blk_alloc ?_ _)); exact BK592.out) k_ hk⟩)); (case aO => exact (by (with_reducible repeat (first | apply Kd.R_alloc | apply Kd.R_drewN | apply Kd.R_drew)); exact Kd.R_mono (Kd.R_far (p := ⟨gb592, 6, none⟩) (Kd.R_far (p := ⟨gb592, 5, none⟩) (Kd.R_far (p := ⟨gb592, 4, none⟩) (Kd.R_far (p := ⟨gb592, 3, none⟩) (Kd.R_far (p := ⟨gb592, 2, none⟩) (Kd.R_far (p := ⟨gb592, 1, none⟩) (Kd.R_far (p := ⟨gb592, 0, none⟩) (Kd.R_mono HO_13.out (fun k_ hk => (⟨hk, hk.2⟩ : _ ∧ k_ ≠ gb592))) (fun _ hk => hk.2) (.string ((rd_T34 t581 x52_1).f0.f0))) (fun _ hk => hk.2) (.string ((rd_T34 t581 x52_1).f0.f1))) (fun _ hk => hk.2) (.string ((rd_T34 t581 x52_1).f0.f2))) (fun _ hk => hk.2) (.string ((rd_T34 t581 x52_1).f0.f3))) (fun _ hk => hk.2) (.string ((rd_T34 t581 x52_1).f0.f4))) (fun _ hk => hk.2) (.int .i64 ((rd_T34 t581 x52_1).f1))) (fun _ hk => hk.2) (.int .i64 ((rd_T34 t581 x52_1).f2))) (fun _ hk => ⟨hk.1.1, hk.1.2⟩))); (case aS => exact (below_size (by repeat (first | (with_reducible first | exact HB.out | apply below_alloc | apply pw_below_drewN | apply below_drew1 | refine below_set ?_ GE592.out) | exact HB.out)))); (case aL => have := LMc23.out; omega); intro v594 w26 ho hb hg hat; rw [← Ny593.out] at ho; have n0_ := Aside0.mk (Kd.R_over' (by (with_reducible repeat (first | apply Kd.R_alloc | apply Kd.R_drewN | apply Kd.R_drew)); exact (Kd.R_mono (Kd.R_far (p := ⟨gb592, 6, none⟩) (Kd.R_far (p := ⟨gb592, 5, none⟩) (Kd.R_far (p := ⟨gb592, 4, none⟩) (Kd.R_far (p := ⟨gb592, 3, none⟩) (Kd.R_far (p := ⟨gb592, 2, none⟩) (Kd.R_far (p := ⟨gb592, 1, none⟩) (Kd.R_far (p := ⟨gb592, 0, none⟩) (Kd.R_types HO_12.out BK592.out (by decide)) (fun _ hk => hk.2) (.string ((rd_T34 t581 x52_1).f0.f0))) (fun _ hk => hk.2) (.string ((rd_T34 t581 x52_1).f0.f1))) (fun _ hk => hk.2) (.string ((rd_T34 t581 x52_1).f0.f2))) (fun _ hk => hk.2) (.string ((rd_T34 t581 x52_1).f0.f3))) (fun _ hk => hk.2) (.string ((rd_T34 t581 x52_1).f0.f4))) (fun _ hk => hk.2) (.int .i64 ((rd_T34 t581 x52_1).f1))) (fun _ hk => hk.2) (.int .i64 ((rd_T34 t581 x52_1).f2))) (fun _ h_ => h_.1))) (Kd.R_typed (by (with_reducible repeat (first | apply Kd.R_alloc | apply Kd.R_drewN | apply Kd.R_drew)); exact (Kd.R_mono (Kd.R_far (p := ⟨gb592, 6, none⟩) (Kd.R_far (p := ⟨gb592, 5, none⟩) (Kd.R_far (p := ⟨gb592, 4, none⟩) (Kd.R_far (p := ⟨gb592, 3, none⟩) (Kd.R_far (p := ⟨gb592, 2, none⟩) (Kd.R_far (p := ⟨gb592, 1, none⟩) (Kd.R_far (p := ⟨gb592, 0, none⟩) (Kd.R_mono HO_13.out (fun k_ hk => (⟨hk, hk.2⟩ : _ ∧ k_ ≠ gb592))) (fun _ hk => hk.2) (.string ((rd_T34 t581 x52_1).f0.f0))) (fun _ hk => hk.2) (.string ((rd_T34 t581 x52_1).f0.f1))) (fun _ hk => hk.2) (.string ((rd_T34 t581 x52_1).f0.f2))) (fun _ hk => hk.2) (.string ((rd_T34 t581 x52_1).f0.f3))) (fun _ hk => hk.2) (.string ((rd_T34 t581 x52_1).f0.f4))) (fun _ hk => hk.2) (.int .i64 ((rd_T34 t581 x52_1).f1))) (fun _ hk => hk.2) (.int .i64 ((rd_T34 t581 x52_1).f2))) (fun _ h_ => h_.1)))) (by decide) hg); have n1_ := Aside0.mk (Kd.R_after (ok := (fun k_ => k_ ≠ gb592)) (by (with_reducible repeat (first | apply Kd.R_alloc | apply Kd.R_drewN | apply Kd.R_drew)); exact Kd.R_mono (Kd.R_far (p := ⟨gb592, 6, none⟩) (Kd.R_far (p := ⟨gb592, 5, none⟩) (Kd.R_far (p := ⟨gb592, 4, none⟩) (Kd.R_far (p := ⟨gb592, 3, none⟩) (Kd.R_far (p := ⟨gb592, 2, none⟩) (Kd.R_far (p := ⟨gb592, 1, none⟩) (Kd.R_far (p := ⟨gb592, 0, none⟩) (Kd.R_mono HO_50.out (fun k_ hk => (⟨hk, hk.2⟩ : _ ∧ k_ ≠ gb592))) (fun _ hk => hk.2) (.string ((rd_T34 t581 x52_1).f0.f0))) (fun _ hk => hk.2) (.string ((rd_T34 t581 x52_1).f0.f1))) (fun _ hk => hk.2) (.string ((rd_T34 t581 x52_1).f0.f2))) (fun _ hk => hk.2) (.string ((rd_T34 t581 x52_1).f0.f3))) (fun _ hk => hk.2) (.string ((rd_T34 t581 x52_1).f0.f4))) (fun _ hk => hk.2) (.int .i64 ((rd_T34 t581 x52_1).f1))) (fun _ hk => hk.2) (.int .i64 ((rd_T34 t581 x52_1).f2))) (fun _ hk => ⟨hk.1.2, hk.1.1⟩)) hg hat); have n2_ := Aside0.mk (blk_grown (g := gb592) (o := .cells #[.string ((rd_T34 t581 x52_1).f0.f0), .string ((rd_T34 t581 x52_1).f0.f1), .string ((rd_T34 t581 x52_1).f0.f2), .string ((rd_T34 t581 x52_1).f0.f3), .string ((rd_T34 t581 x52_1).f0.f4), .int .i64 ((rd_T34 t581 x52_1).f1), .int .i64 ((rd_T34 t581 x52_1).f2)] 34 (0, 0)) (by (with_reducible repeat (first | refine blk_drewN ?_ _ | refine blk_drew ?_ | refine blk_alloc ?_ _)); refine blk_put (cs := #[.string ((rd_T34 t581 x52_1).f0.f0), .string ((rd_T34 t581 x52_1).f0.f1), .string ((rd_T34 t581 x52_1).f0.f2), .string ((rd_T34 t581 x52_1).f0.f3), .string ((rd_T34 t581 x52_1).f0.f4), .int .i64 ((rd_T34 t581 x52_1).f1), .int .i64 0]) ?_ 6 _ rfl; (with_reducible repeat (first | refine blk_drewN ?_ _ | refine blk_drew ?_ | refine blk_alloc ?_ _)); refine blk_put (cs := #[.string ((rd_T34 t581 x52_1).f0.f0), .string ((rd_T34 t581 x52_1).f0.f1), .string ((rd_T34 t581 x52_1).f0.f2), .string ((rd_T34 t581 x52_1).f0.f3), .string ((rd_T34 t581 x52_1).f0.f4), .int .i64 0, .int .i64 0]) ?_ 5 _ rfl; (with_reducible repeat (first | refine blk_drewN ?_ _ | refine blk_drew ?_ | refine blk_alloc ?_ _)); refine blk_put (cs := #[.string ((rd_T34 t581 x52_1).f0.f0), .string ((rd_T34 t581 x52_1).f0.f1), .string ((rd_T34 t581 x52_1).f0.f2), .string ((rd_T34 t581 x52_1).f0.f3), .string (⟨#[]⟩ : ByteArray), .int .i64 0, .int .i64 0]) ?_ 4 _ rfl; (with_reducible repeat (first | refine blk_drewN ?_ _ | refine blk_drew ?_ | refine blk_alloc ?_ _)); refine blk_put (cs := #[.string ((rd_T34 t581 x52_1).f0.f0), .string ((rd_T34 t581 x52_1).f0.f1), .string ((rd_T34 t581 x52_1).f0.f2), .string (⟨#[]⟩ : ByteArray), .string (⟨#[]⟩ : ByteArray), .int .i64 0, .int .i64 0]) ?_ 3 _ rfl; (with_reducible repeat (first | refine blk_drewN ?_ _ | refine blk_drew ?_ | refine blk_alloc ?_ _)); refine blk_put (cs := #[.string ((rd_T34 t581 x52_1).f0.f0), .string ((rd_T34 t581 x52_1).f0.f1), .string (⟨#[]⟩ : ByteArray), .string (⟨#[]⟩ : ByteArray), .string (⟨#[]⟩ : ByteArray), .int .i64 0, .int .i64 0]) ?_ 2 _ rfl; (with_reducible repeat (first | refine blk_drewN ?_ _ | refine blk_drew ?_ | refine blk_alloc ?_ _)); refine blk_put (cs := #[.string ((rd_T34 t581 x52_1).f0.f0), .string (⟨#[]⟩ : ByteArray), .string (⟨#[]⟩ : ByteArray), .string (⟨#[]⟩ : ByteArray), .string (⟨#[]⟩ : ByteArray), .int .i64 0, .int .i64 0]) ?_ 1 _ rfl; (with_reducible repeat (first | refine blk_drewN ?_ _ | refine blk_drew ?_ | refine blk_alloc ?_ _)); refine blk_put (cs := #[.string (⟨#[]⟩ : ByteArray), .string (⟨#[]⟩ : ByteArray), .string (⟨#[]⟩ : ByteArray), .string (⟨#[]⟩ : ByteArray), .string (⟨#[]⟩ : ByteArray), .int .i64 0, .int .i64 0]) ?_ 0 _ rfl; (with_reducible repeat (first | refine blk_drewN ?_ _ | refine blk_drew ?_ | refine blk_alloc ?_ _)); exact BK592.out) hg (Kd.R_away HO_13.out (fun _ hk => hk.2))); have n3_ := Aside0.mk (hb); have n4_ := Aside0.mk (ho); clear HO_12; clear HO_50; clear BK592; clear HB; clear HO_13; have HO_12 := n0_; have HO_50 := n1_; have BK592 := n2_; have HB := n3_; have HO595 := n4_; clear n0_ n1_ n2_ n3_ n4_; clear ho hb hg hat))
           go_roundg k1
           case measure => have := HK1.out; omega
           case rel => exact ⟨(y593), (wrap64 (x52_1 + 1)), (by first | rfl | (simp; done) | (simp [*]; done)), H', ⟨by have := HK1.out; omega⟩, ⟨by (with_reducible repeat (first | apply Kd.R_alloc | apply Kd.R_drewN | apply Kd.R_drew)); exact HO_12.out⟩, ⟨by (with_reducible repeat (first | apply Kd.R_alloc | apply Kd.R_drewN | apply Kd.R_drew)); exact Kd.R_mono HO595.out (fun _ hk => hk.1)⟩, ⟨by (with_reducible repeat (first | apply Kd.R_alloc | apply Kd.R_drewN | apply Kd.R_drew)); exact Kd.R_mono HO_50.out (fun _ hk => hk.2)⟩, ⟨by repeat (first | (with_reducible first | exact HB.out | apply below_alloc | apply pw_below_drewN | apply below_drew1 | refine below_set ?_ GE592.out) | exact HB.out)⟩⟩
          ·rw [if_neg c23] at H
           exact absurd H (by simp)
         ·rw [if_neg c22] at H
          exact absurd H (by simp)
        ·rw [if_neg c21] at H
         exact absurd H (by simp)
       ·rw [if_neg c20] at H
        have c20b0 : decide (x52_1 < (t581.length : Int)) = false := decide_eq_false c20
        clear c20
        have H' := Aside0.mk H
        clear H
        go_wp2
        go_loopg [13, 71] k1 (fun kq v13 v71 w' => ∃ (x13_2 : List (S34)) (x71_2 : Int), v71 = .int .i64 x71_2 ∧ Aside0 (interco_Eliminate.l1 kq a1 a2 x13_2 t587 (t587.length : Int) x71_2 = some (r1, r2)) ∧ Aside0 (kq ≤ k1) ∧ Aside0 (Kd.R k34 34 w' w.heap.size (fun _ => True) v13 x13_2) ∧ Aside0 (Kd.R k89 89 w' w.heap.size (fun _ => True) (.slice Ao19 t587.length co19) t587) ∧ Aside0 (Below w.heap.size w w'))
        case atStart => exact ⟨(x13_1), (0), (by first | rfl | (simp; done) | (simp [*]; done)), H', ⟨Nat.le_refl _⟩, ⟨by (with_reducible repeat (first | apply Kd.R_alloc | apply Kd.R_drewN | apply Kd.R_drew)); exact Kd.R_mono HO_13.out (fun _ hk => trivial)⟩, ⟨by (with_reducible repeat (first | apply Kd.R_alloc | apply Kd.R_drewN | apply Kd.R_drew)); exact HO_12.out⟩, ⟨by repeat (first | (with_reducible first | exact HB.out | apply below_alloc | apply pw_below_drewN | apply below_drew1) | exact HB.out)⟩⟩
        case round =>
         clear H'
         try clear c1
         try clear c2
         try clear p2
         try clear c3
         try clear c4
         try clear c5
         try clear p5
         try clear q5
         try clear hx5
         try clear c6
         try clear p6
         try clear c7
         try clear c8
         try clear c10
         try clear c13
         try clear c13b0
         try clear c13b1
         try clear c20
         try clear c20b0
         try clear c21
         try clear c21b0
         try clear c22
         try clear c22b0
         try clear c23
         try clear hcz25_0
         try clear hcz25_1
         try clear hcz25_2
         try clear hcz25_3
         try clear hcz25_4
         try clear hcz25_5
         try clear hcz25_6
         try clear hfz25_0
         try clear hfz25_1
         try clear hfz25_2
         try clear hfz25_3
         try clear hfz25_4
         try clear hfz25_5
         try clear hfz25_6
         try clear hx591_0
         try clear hx591_1
         try clear hx591_2
         try clear hx591_3
         try clear hx591_4
         try clear hx591_5
         try clear hx591_6
         try clear p2
         try clear p591
         try clear q591
         obtain ⟨x13_2, x71_2, rfl, HA, HK2, HO_13, HO_69, HB⟩ := hrel
         cases gk with
         | zero => exact absurd HA.out (by simp [interco_Eliminate.l1])
         | succ k2 =>
          have H := HA.out
          clear HA
          simp only [interco_Eliminate.l1] at H
          by_cases c27 : x71_2 < (t587.length : Int)
          ·rw [if_pos c27] at H
           have c27b0 : decide (x71_2 < (t587.length : Int)) = true := decide_eq_true c27
           clear c27
           by_cases c28 : 0 ≤ x71_2
           ·rw [if_pos c28] at H
            have c28b0 : decide (0 ≤ x71_2) = true := decide_eq_true c28
            clear c28
            by_cases c29 : x71_2 < (t587.length : Int)
            ·rw [if_pos c29] at H
             have c29b0 : decide (x71_2 < (t587.length : Int)) = true := decide_eq_true c29
             clear c29
             by_cases c30 : ((rd_T89 t587 x71_2).f2) = 0
             ·rw [if_pos c30] at H
              have c30b0 : (((rd_T89 t587 x71_2).f2) == 0) = true := beq_iff_eq.mpr c30
              have c30b1 : (((rd_T89 t587 x71_2).f2) != 0) = false := bne_eq_false_iff_eq.mpr c30
              clear c30
              have H' := Aside0.mk H
              clear H
              have p596 : 0 ≤ (x71_2 : Int) := of_decide_eq_true (by first | (with_reducible assumption) | assumption)
              have q596 : x71_2 < (t587.length : Int) := of_decide_eq_true (by first | (with_reducible assumption) | assumption)
              obtain ⟨ad596, e596, hx596_0, hx596_1, hx596_2⟩ := at_T89 (Kd.R_reads' HO_69.out).2.2 x71_2 p596 q596
              cases e596
              replace p596 := eq_true p596
              replace q596 := eq_true q596
              go_wp2_with (first | ((with_reducible refine gate_dst (N := 17) rfl ?_); refine box_event ?hg (N := 17) ?hd (cs := #[.string (⟨#[]⟩ : ByteArray), .string (⟨#[]⟩ : ByteArray), .int .i64 0]) (t := 89) ?hr ?_; (case hd => rfl); (case hg => rfl); (case hr => first | (go_simp; done) | (go_simp; rfl)); intro gb597 hg w31 hbox hb; have n0_ := Aside0.mk (Kd.R_below (by (with_reducible repeat (first | apply Kd.R_alloc | apply Kd.R_drewN | apply Kd.R_drew)); exact HO_13.out) hb); have n1_ := Aside0.mk (Kd.R_below (Kd.R_elderB (by (with_reducible repeat (first | apply Kd.R_alloc | apply Kd.R_drewN | apply Kd.R_drew)); exact HO_69.out) gb597 (Nat.le_of_eq hg.symm)) hb); have n2_ := Aside0.mk (below_step (by repeat (first | (with_reducible first | exact HB.out | apply below_alloc | apply pw_below_drewN | apply below_drew1) | exact HB.out)) hb); have n3_ := Aside0.mk (hbox); have n4_ := Aside0.mk ((by rw [hg]; exact (below_size (by repeat (first | (with_reducible first | exact HB.out | apply below_alloc | apply pw_below_drewN | apply below_drew1) | exact HB.out))) : w.heap.size ≤ gb597)); have n5_ := Aside0.mk ((by rw [hg]; exact (below_size (by repeat (first | (with_reducible first | exact HB.out | apply below_alloc | apply pw_below_drewN | apply below_drew1) | exact HB.out))) : w.heap.size ≤ gb597)); clear HO_13; clear HO_69; clear HB; have HO_13 := n0_; have HO_69 := n1_; have HB := n2_; have BK597 := n3_; have GW597 := n4_; have GE597 := n5_; clear n0_ n1_ n2_ n3_ n4_ n5_; clear hb hbox hg; have hcz32_0 : w31.cell? ⟨gb597, 0, none⟩ = some (.string (⟨#[]⟩ : ByteArray)) := (blk_cell BK597.out 0).trans rfl; have hcz32_1 : w31.cell? ⟨gb597, 1, none⟩ = some (.string (⟨#[]⟩ : ByteArray)) := (blk_cell BK597.out 1).trans rfl; have hcz32_2 : w31.cell? ⟨gb597, 2, none⟩ = some (.int .i64 0) := (blk_cell BK597.out 2).trans rfl; have hfz32_0 := blk_frozen BK597.out 0; have hfz32_1 := blk_frozen BK597.out 1; have hfz32_2 := blk_frozen BK597.out 2))
              go_roundg k2
              case measure => have := HK1.out; have := HK2.out; omega
              case rel => exact ⟨(x13_2), (wrap64 (x71_2 + 1)), (by first | rfl | (simp; done) | (simp [*]; done)), H', ⟨by have := HK1.out; have := HK2.out; omega⟩, ⟨by (with_reducible repeat (first | apply Kd.R_alloc | apply Kd.R_drewN | apply Kd.R_drew)); exact Kd.R_mono (Kd.R_far (p := ⟨gb597, 2, none⟩) (Kd.R_far (p := ⟨gb597, 1, none⟩) (Kd.R_far (p := ⟨gb597, 0, none⟩) (Kd.R_types HO_13.out BK597.out (by decide)) (fun _ hk => hk.2) (.string ((rd_T89 t587 x71_2).f0))) (fun _ hk => hk.2) (.string ((rd_T89 t587 x71_2).f1))) (fun _ hk => hk.2) (.int .i64 ((rd_T89 t587 x71_2).f2))) (fun _ hk => trivial)⟩, ⟨by (with_reducible repeat (first | apply Kd.R_alloc | apply Kd.R_drewN | apply Kd.R_drew)); exact Kd.R_mono (Kd.R_far (p := ⟨gb597, 2, none⟩) (Kd.R_far (p := ⟨gb597, 1, none⟩) (Kd.R_far (p := ⟨gb597, 0, none⟩) (Kd.R_mono HO_69.out (fun k_ hk => (⟨hk, hk.2⟩ : _ ∧ k_ ≠ gb597))) (fun _ hk => hk.2) (.string ((rd_T89 t587 x71_2).f0))) (fun _ hk => hk.2) (.string ((rd_T89 t587 x71_2).f1))) (fun _ hk => hk.2) (.int .i64 ((rd_T89 t587 x71_2).f2))) (fun _ hk => trivial)⟩, ⟨by repeat (first | (with_reducible first | exact HB.out | apply below_alloc | apply pw_below_drewN | apply below_drew1 | refine below_set ?_ GE597.out) | exact HB.out)⟩⟩
             ·rw [if_neg c30] at H
              have c30b0 : (((rd_T89 t587 x71_2).f2) == 0) = false := beq_eq_false_iff_ne.mpr c30
              have c30b1 : (((rd_T89 t587 x71_2).f2) != 0) = true := bne_iff_ne.mpr c30
              by_cases c33 : x13_2.length < 1466015503701
              ·rw [if_pos c33] at H
               have LMc33 := Aside0.mk c33
               clear c33
               obtain ⟨y598, hy598⟩ : ∃ y_ : List (S34), y_ = (x13_2 ++ [(⟨(⟨(rd_T89 t587 x71_2).f0, a2, a1, (⟨#[]⟩ : ByteArray), (⟨#[]⟩ : ByteArray)⟩ : S32), (rd_T89 t587 x71_2).f2, (rd_T89 t587 x71_2).f2⟩ : S34)]) := ⟨_, rfl⟩
               replace H : (interco_Eliminate.l1 k2 a1 a2 y598 t587 (t587.length : Int) (wrap64 (x71_2 + 1))) = some (r1, r2) := by first | (rw [hy598]; with_reducible exact H) | (have H2_ := (Option.bind_some _ _).symm.trans H; rw [hy598]; with_reducible exact H2_) | (have H2_ := (Option.bind_some _ _).symm.trans H; with_reducible exact H2_) | with_reducible exact H | (rw [hy598]; exact H) | exact H
               have Ny598 := Aside0.mk hy598
               clear hy598
               have H' := Aside0.mk H
               clear H
               have p596 : 0 ≤ (x71_2 : Int) := of_decide_eq_true (by first | (with_reducible assumption) | assumption)
               have q596 : x71_2 < (t587.length : Int) := of_decide_eq_true (by first | (with_reducible assumption) | assumption)
               obtain ⟨ad596, e596, hx596_0, hx596_1, hx596_2⟩ := at_T89 (Kd.R_reads' HO_69.out).2.2 x71_2 p596 q596
               cases e596
               replace p596 := eq_true p596
               replace q596 := eq_true q596
               go_wp2_with (first | ((with_reducible refine gate_dst (N := 17) rfl ?_); refine box_event ?hg (N := 17) ?hd (cs := #[.string (⟨#[]⟩ : ByteArray), .string (⟨#[]⟩ : ByteArray), .int .i64 0]) (t := 89) ?hr ?_; (case hd => rfl); (case hg => rfl); (case hr => first | (go_simp; done) | (go_simp; rfl)); intro gb597 hg w34 hbox hb; have n0_ := Aside0.mk (Kd.R_below (by (with_reducible repeat (first | apply Kd.R_alloc | apply Kd.R_drewN | apply Kd.R_drew)); exact HO_13.out) hb); have n1_ := Aside0.mk (Kd.R_below (Kd.R_elderB (by (with_reducible repeat (first | apply Kd.R_alloc | apply Kd.R_drewN | apply Kd.R_drew)); exact HO_69.out) gb597 (Nat.le_of_eq hg.symm)) hb); have n2_ := Aside0.mk (below_step (by repeat (first | (with_reducible first | exact HB.out | apply below_alloc | apply pw_below_drewN | apply below_drew1) | exact HB.out)) hb); have n3_ := Aside0.mk (hbox); have n4_ := Aside0.mk ((by rw [hg]; exact (below_size (by repeat (first | (with_reducible first | exact HB.out | apply below_alloc | apply pw_below_drewN | apply below_drew1) | exact HB.out))) : w.heap.size ≤ gb597)); have n5_ := Aside0.mk ((by rw [hg]; exact (below_size (by repeat (first | (with_reducible first | exact HB.out | apply below_alloc | apply pw_below_drewN | apply below_drew1) | exact HB.out))) : w.heap.size ≤ gb597)); clear HO_13; clear HO_69; clear HB; have HO_13 := n0_; have HO_69 := n1_; have HB := n2_; have BK597 := n3_; have GW597 := n4_; have GE597 := n5_; clear n0_ n1_ n2_ n3_ n4_ n5_; clear hb hbox hg; have hcz35_0 : w34.cell? ⟨gb597, 0, none⟩ = some (.string (⟨#[]⟩ : ByteArray)) := (blk_cell BK597.out 0).trans rfl; have hcz35_1 : w34.cell? ⟨gb597, 1, none⟩ = some (.string (⟨#[]⟩ : ByteArray)) := (blk_cell BK597.out 1).trans rfl; have hcz35_2 : w34.cell? ⟨gb597, 2, none⟩ = some (.int .i64 0) := (blk_cell BK597.out 2).trans rfl; have hfz35_0 := blk_frozen BK597.out 0; have hfz35_1 := blk_frozen BK597.out 1; have hfz35_2 := blk_frozen BK597.out 2) | ((with_reducible refine gate_builtin (b := .append) (xs := #[.tmp 78, .tmp 89]) rfl ?_); at_builtin; refine Kd.R_append k34 (w0 := w) w.heap.size rfl (.tmp 78) (.tmp 89) 22 34 (.agg #[(.string ⟨#[]⟩), (.string ⟨#[]⟩), (.string ⟨#[]⟩), (.string ⟨#[]⟩), (.string ⟨#[]⟩), (.int .i64 0), (.int .i64 0)]) 96 rfl Try.underlying22 info34 rfl (by decide) (by omega) u13 x13_2 (⟨(⟨(rd_T89 t587 x71_2).f0, a2, a1, (⟨#[]⟩ : ByteArray), (⟨#[]⟩ : ByteArray)⟩ : S32), (rd_T89 t587 x71_2).f2, (rd_T89 t587 x71_2).f2⟩ : S34) [.string ((rd_T89 t587 x71_2).f0), .string a2, .string a1, .string (⟨#[]⟩ : ByteArray), .string (⟨#[]⟩ : ByteArray), .int .i64 ((rd_T89 t587 x71_2).f2), .int .i64 ((rd_T89 t587 x71_2).f2)] (fun _ => True) (fun _ => False) rfl (by first | (go_simp; done) | (go_simp; rfl)) ?aP (fun _ hk => hk.elim) ?aF ?aO ?aB ?aS ?aL ?_; (case aP => exact k34_mkM _ _ _ (⟨(⟨(rd_T89 t587 x71_2).f0, a2, a1, (⟨#[]⟩ : ByteArray), (⟨#[]⟩ : ByteArray)⟩ : S32), (rd_T89 t587 x71_2).f2, (rd_T89 t587 x71_2).f2⟩ : S34)); (case aB => exact (by repeat (first | (with_reducible first | exact HB.out | apply below_alloc | apply pw_below_drewN | apply below_drew1 | refine below_set ?_ GE597.out) | exact HB.out))); (case aF => exact (fun _ _ => trivial)); (case aO => exact (by (with_reducible repeat (first | apply Kd.R_alloc | apply Kd.R_drewN | apply Kd.R_drew)); exact Kd.R_mono (Kd.R_far (p := ⟨gb597, 2, none⟩) (Kd.R_far (p := ⟨gb597, 1, none⟩) (Kd.R_far (p := ⟨gb597, 0, none⟩) (Kd.R_types HO_13.out BK597.out (by decide)) (fun _ hk => hk.2) (.string ((rd_T89 t587 x71_2).f0))) (fun _ hk => hk.2) (.string ((rd_T89 t587 x71_2).f1))) (fun _ hk => hk.2) (.int .i64 ((rd_T89 t587 x71_2).f2))) (fun _ hk => trivial))); (case aS => exact (below_size (by repeat (first | (with_reducible first | exact HB.out | apply below_alloc | apply pw_below_drewN | apply below_drew1 | refine below_set ?_ GE597.out) | exact HB.out)))); (case aL => have := LMc33.out; omega); intro v599 w36 ho hb hg hat; rw [← Ny598.out] at ho; have n0_ := Aside0.mk (Kd.R_over' (by (with_reducible repeat (first | apply Kd.R_alloc | apply Kd.R_drewN | apply Kd.R_drew)); exact (Kd.R_mono (Kd.R_far (p := ⟨gb597, 2, none⟩) (Kd.R_far (p := ⟨gb597, 1, none⟩) (Kd.R_far (p := ⟨gb597, 0, none⟩) (Kd.R_mono HO_69.out (fun k_ hk => (⟨hk, hk.2⟩ : _ ∧ k_ ≠ gb597))) (fun _ hk => hk.2) (.string ((rd_T89 t587 x71_2).f0))) (fun _ hk => hk.2) (.string ((rd_T89 t587 x71_2).f1))) (fun _ hk => hk.2) (.int .i64 ((rd_T89 t587 x71_2).f2))) (fun _ h_ => h_.1))) (Kd.R_typed (by (with_reducible repeat (first | apply Kd.R_alloc | apply Kd.R_drewN | apply Kd.R_drew)); exact (Kd.R_mono (Kd.R_far (p := ⟨gb597, 2, none⟩) (Kd.R_far (p := ⟨gb597, 1, none⟩) (Kd.R_far (p := ⟨gb597, 0, none⟩) (Kd.R_types HO_13.out BK597.out (by decide)) (fun _ hk => hk.2) (.string ((rd_T89 t587 x71_2).f0))) (fun _ hk => hk.2) (.string ((rd_T89 t587 x71_2).f1))) (fun _ hk => hk.2) (.int .i64 ((rd_T89 t587 x71_2).f2))) (fun _ h_ => h_.1)))) (by decide) hg); have n1_ := Aside0.mk (blk_grown (g := gb597) (o := .cells #[.string ((rd_T89 t587 x71_2).f0), .string ((rd_T89 t587 x71_2).f1), .int .i64 ((rd_T89 t587 x71_2).f2)] 89 (0, 0)) (by (with_reducible repeat (first | refine blk_drewN ?_ _ | refine blk_drew ?_ | refine blk_alloc ?_ _)); refine blk_put (cs := #[.string ((rd_T89 t587 x71_2).f0), .string ((rd_T89 t587 x71_2).f1), .int .i64 0]) ?_ 2 _ rfl; (with_reducible repeat (first | refine blk_drewN ?_ _ | refine blk_drew ?_ | refine blk_alloc ?_ _)); refine blk_put (cs := #[.string ((rd_T89 t587 x71_2).f0), .string (⟨#[]⟩ : ByteArray), .int .i64 0]) ?_ 1 _ rfl; (with_reducible repeat (first | refine blk_drewN ?_ _ | refine blk_drew ?_ | refine blk_alloc ?_ _)); refine blk_put (cs := #[.string (⟨#[]⟩ : ByteArray), .string (⟨#[]⟩ : ByteArray), .int .i64 0]) ?_ 0 _ rfl; (with_reducible repeat (first | refine blk_drewN ?_ _ | refine blk_drew ?_ | refine blk_alloc ?_ _)); exact BK597.out) hg (Kd.R_ne HO_13.out BK597.out (by decide))); have n2_ := Aside0.mk (hb); have n3_ := Aside0.mk (ho); clear HO_69; clear BK597; clear HB; clear HO_13; have HO_69 := n0_; have BK597 := n1_; have HB := n2_; have HO600 := n3_; clear n0_ n1_ n2_ n3_; clear ho hb hg hat))
               go_roundg k2
               case measure => have := HK1.out; have := HK2.out; omega
               case rel => exact ⟨(y598), (wrap64 (x71_2 + 1)), (by first | rfl | (simp; done) | (simp [*]; done)), H', ⟨by have := HK1.out; have := HK2.out; omega⟩, ⟨by (with_reducible repeat (first | apply Kd.R_alloc | apply Kd.R_drewN | apply Kd.R_drew)); exact HO600.out⟩, ⟨by (with_reducible repeat (first | apply Kd.R_alloc | apply Kd.R_drewN | apply Kd.R_drew)); exact Kd.R_mono HO_69.out (fun _ hk => trivial)⟩, ⟨by repeat (first | (with_reducible first | exact HB.out | apply below_alloc | apply pw_below_drewN | apply below_drew1 | refine below_set ?_ GE597.out) | exact HB.out)⟩⟩
              ·rw [if_neg c33] at H
               exact absurd H (by simp)
            ·rw [if_neg c29] at H
             exact absurd H (by simp)
           ·rw [if_neg c28] at H
            exact absurd H (by simp)
          ·rw [if_neg c27] at H
           have c27b0 : decide (x71_2 < (t587.length : Int)) = false := decide_eq_false c27
           clear c27
           replace H := Option.bind_eq_some_iff.mp H
           obtain ⟨⟨t601, t602⟩, A370, H⟩ := H
           replace H : (some (t601, t602)) = some (r1, r2) := H
           have A37 := Aside0.mk A370
           clear A370
           simp only [Option.some.injEq, Prod.mk.injEq] at H
           obtain ⟨rfl, rfl⟩ := H
           obtain ⟨Ao38, co38, eo38⟩ := Kd.R_slice HO_13.out
           subst eo38
           go_wp2_with (first | ((with_reducible refine gate_callee (f := 19) rfl ?_); refine goesL_ (some 93) rfl rfl Try.func19 (by kernel_rfl) rfl #[.slice Ao38 x13_2.length co38] rfl (by (try simp only [List.map_toArray, List.map_cons, List.map_nil]); first | done | rfl | (simp only [List.length_drop, List.length_take]; rfl)) ?_; (with_reducible refine (sheet_Of.calls _ _ x13_2 t601 t602 _ ?side1 ?side2 A37.out).mono ?_); (case side1 => repeat (first | exact (Kd.R_reads' HO_13.out).2.2 | (with_reducible refine Kd.C_alloc ?_ _) | (with_reducible refine Kd.C_drewN ?_ _) | (with_reducible refine Kd.C_drew ?_))); (case side2 => exact (Kd.R_reads' HO_13.out).2.1); rintro e w39 ⟨v603, rfl, ho0, hb⟩; refine ⟨_, rfl, ?_⟩; have n0_ := Aside0.mk (Kd.R_elder' (by (with_reducible repeat (first | apply Kd.R_alloc | apply Kd.R_drewN | apply Kd.R_drew)); exact HO_13.out) (Kd.R_base ho0) hb); have n1_ := Aside0.mk (Kd.R_below (by (with_reducible repeat (first | apply Kd.R_alloc | apply Kd.R_drewN | apply Kd.R_drew)); exact HO_69.out) hb); have n2_ := Aside0.mk (Kd.R_lower (Kd.R_new' ho0 (Kd.R_lt (by (with_reducible repeat (first | apply Kd.R_alloc | apply Kd.R_drewN | apply Kd.R_drew)); exact HO_13.out))) (below_size (by repeat (first | (with_reducible first | exact HB.out | apply below_alloc | apply pw_below_drewN | apply below_drew1) | exact HB.out)))); have n3_ := Aside0.mk (below_step (by repeat (first | (with_reducible first | exact HB.out | apply below_alloc | apply pw_below_drewN | apply below_drew1) | exact HB.out)) hb); clear HO_13; clear HO_69; clear HB; have HO_13 := n0_; have HO_69 := n1_; have HO604 := n2_; have HB := n3_; clear n0_ n1_ n2_ n3_; (try clear hb); (try clear hb2); (try clear hk); (try clear hi); (try clear ho0)))
           go_ret2
           exact ⟨_, by first | rfl | (simp [errW_none, errW_some] <;> rfl) | (simp [*, errW_none, errW_some] <;> rfl), by (with_reducible repeat (first | apply Kd.R_alloc | apply Kd.R_drewN | apply Kd.R_drew)); exact Kd.R_mono HO604.out (fun _ hk => trivial), by repeat (first | (with_reducible first | exact HB.out | apply below_alloc | apply pw_below_drewN | apply below_drew1) | exact HB.out)⟩
    ·rw [if_neg c13] at H
     have c13b0 : (t588 == 0) = false := beq_eq_false_iff_ne.mpr c13
     have c13b1 : (t588 != 0) = true := bne_iff_ne.mpr c13
     simp only [Option.some.injEq, Prod.mk.injEq] at H
     obtain ⟨rfl, rfl⟩ := H
     go_enter Try.func50, Try.ntmps50
     go_wp2_with (first | ((with_reducible refine gate_callee (f := 22) rfl ?_); refine goesL_ (some 20) rfl rfl Try.func22 (by kernel_rfl) rfl #[.slice A0 l0.length c0] rfl (by (try simp only [List.map_toArray, List.map_cons, List.map_nil]); first | done | rfl | (simp only [List.length_drop, List.length_take]; rfl)) ?_; (with_reducible refine (sheet_Right.calls _ _ l0 true _ ?side1 ?side2 A5.out).mono ?_); (case side1 => repeat (first | exact HR0.out | (with_reducible refine Kd.C_alloc ?_ _) | (with_reducible refine Kd.C_drewN ?_ _) | (with_reducible refine Kd.C_drew ?_))); (case side2 => exact HC0.out); rintro e w40 ⟨rfl, hb⟩; refine ⟨_, rfl, ?_⟩; have n0_ := Aside0.mk (below_step (by repeat (first | (with_reducible first | exact HB.out | apply below_alloc | apply pw_below_drewN | apply below_drew1) | exact HB.out)) hb); clear HB; have HB := n0_; clear n0_; (try clear hb); (try clear hb2); (try clear hk); (try clear hi)) | ((with_reducible refine gate_callee (f := 77) rfl ?_); refine goesL_ (some 24) rfl rfl Try.func77 (by kernel_rfl) rfl #[.string a1] rfl (by (try simp only [List.map_toArray, List.map_cons, List.map_nil]); first | done | rfl | (simp only [List.length_drop, List.length_take]; rfl)) ?_; (with_reducible refine (money_Code.calls a1 true _ A7.out).mono ?_); rintro e w41 ⟨rfl, hb⟩; refine ⟨_, rfl, ?_⟩; have n0_ := Aside0.mk (below_step (by repeat (first | (with_reducible first | exact HB.out | apply below_alloc | apply pw_below_drewN | apply below_drew1) | exact HB.out)) hb); clear HB; have HB := n0_; clear n0_; (try clear hb); (try clear hb2); (try clear hk); (try clear hi)) | ((with_reducible refine gate_callee (f := 78) rfl ?_); refine goesL_ (some 28) rfl rfl Try.func78 (by kernel_rfl) rfl #[.string a2] rfl (by (try simp only [List.map_toArray, List.map_cons, List.map_nil]); first | done | rfl | (simp only [List.length_drop, List.length_take]; rfl)) ?_; (with_reducible refine (words_Code.calls a2 true _ A9.out).mono ?_); rintro e w' ⟨rfl, ⟨nd, rfl⟩⟩; refine ⟨_, rfl, ?_⟩) | ((with_reducible refine gate_callee (f := 44) rfl ?_); refine goesL_ (some 33) rfl rfl Try.func44 (by kernel_rfl) rfl #[.slice A0 l0.length c0, .slice A3 l3.length c3] rfl (by (try simp only [List.map_toArray, List.map_cons, List.map_nil]); first | done | rfl | (simp only [List.length_drop, List.length_take]; rfl)) ?_; (with_reducible refine (interco_Inside.calls k _ _ l0 _ _ l3 t581 t582 _ ?side1 ?side2 ?side3 ?side4 A11.out).mono ?_); (case side1 => repeat (first | exact (Kd.C_below HR0.out (by repeat (first | (with_reducible first | exact HB.out | apply below_alloc | apply pw_below_drewN | apply below_drew1) | exact HB.out))) | (with_reducible refine Kd.C_alloc ?_ _) | (with_reducible refine Kd.C_drewN ?_ _) | (with_reducible refine Kd.C_drew ?_))); (case side2 => exact HC0.out); (case side3 => repeat (first | exact (Kd.C_below HR3.out (by repeat (first | (with_reducible first | exact HB.out | apply below_alloc | apply pw_below_drewN | apply below_drew1) | exact HB.out))) | (with_reducible refine Kd.C_alloc ?_ _) | (with_reducible refine Kd.C_drewN ?_ _) | (with_reducible refine Kd.C_drew ?_))); (case side4 => exact HC3.out); rintro e w42 ⟨v583, v585, rfl, ho0, ho1, hb⟩; refine ⟨_, rfl, ?_⟩; have n0_ := Aside0.mk (Kd.R_lower ho0 (below_size (by repeat (first | (with_reducible first | exact HB.out | apply below_alloc | apply pw_below_drewN | apply below_drew1) | exact HB.out)))); have n1_ := Aside0.mk (Kd.R_lower ho1 (below_size (by repeat (first | (with_reducible first | exact HB.out | apply below_alloc | apply pw_below_drewN | apply below_drew1) | exact HB.out)))); have n2_ := Aside0.mk (below_step (by repeat (first | (with_reducible first | exact HB.out | apply below_alloc | apply pw_below_drewN | apply below_drew1) | exact HB.out)) hb); clear HB; have HO584 := n0_; have HO586 := n1_; have HB := n2_; clear n0_ n1_ n2_; (try clear hb); (try clear hb2); (try clear hk); (try clear hi); (try clear ho0); (try clear ho1); obtain ⟨Ao43, co43, eo43⟩ := Kd.R_slice HO584.out; subst eo43) | ((with_reducible refine gate_callee (f := 75) rfl ?_); refine goesL_ (some 38) rfl rfl Try.func75 (by kernel_rfl) rfl #[.slice Ao43 t581.length co43] rfl (by (try simp only [List.map_toArray, List.map_cons, List.map_nil]); first | done | rfl | (simp only [List.length_drop, List.length_take]; rfl)) ?_; (with_reducible refine (interco_pairs.calls _ _ t581 t587 t588 _ ?side1 ?side2 A12.out).mono ?_); (case side1 => repeat (first | exact (Kd.R_reads' HO584.out).2.2 | (with_reducible refine Kd.C_alloc ?_ _) | (with_reducible refine Kd.C_drewN ?_ _) | (with_reducible refine Kd.C_drew ?_))); (case side2 => exact (Kd.R_reads' HO584.out).2.1); rintro e w44 ⟨v589, rfl, ho0, hb⟩; refine ⟨_, rfl, ?_⟩; have n0_ := Aside0.mk (Kd.R_below (by (with_reducible repeat (first | apply Kd.R_alloc | apply Kd.R_drewN | apply Kd.R_drew)); exact HO584.out) hb); have n1_ := Aside0.mk (Kd.R_below (by (with_reducible repeat (first | apply Kd.R_alloc | apply Kd.R_drewN | apply Kd.R_drew)); exact HO586.out) hb); have n2_ := Aside0.mk (Kd.R_lower ho0 (below_size (by repeat (first | (with_reducible first | exact HB.out | apply below_alloc | apply pw_below_drewN | apply below_drew1) | exact HB.out)))); have n3_ := Aside0.mk (below_step (by repeat (first | (with_reducible first | exact HB.out | apply below_alloc | apply pw_below_drewN | apply below_drew1) | exact HB.out)) hb); clear HO584; clear HO586; clear HB; have HO584 := n0_; have HO586 := n1_; have HO590 := n2_; have HB := n3_; clear n0_ n1_ n2_ n3_; (try clear hb); (try clear hb2); (try clear hk); (try clear hi); (try clear ho0)))
     go_ret2
     exact ⟨_, by first | rfl | (simp [errW_none, errW_some] <;> rfl) | (simp [*, errW_none, errW_some] <;> rfl), by first | exact Kd.R_nil _ _ _ _ _ | exact Kd.N_nil _ _ _ _ _ | exact Kd.V_nil _ _ _ _ _ | exact Kd.Q_nil _ _ _ _ _ | exact Kd.S_nil _ _ _ _ _, by repeat (first | (with_reducible first | exact HB.out | apply below_alloc | apply pw_below_drewN | apply below_drew1) | exact HB.out)⟩
   ·replace c10 := Bool.eq_false_iff.mpr c10
    subst c10
    have H1 : (some (([] : List (S34)), 7)) = some (r1, r2) := by rw [if_neg (show ¬ (false = true) by decide)] at H; exact H
    clear H
    have H := H1
    clear H1
    simp only [Option.some.injEq, Prod.mk.injEq] at H
    obtain ⟨rfl, rfl⟩ := H
    go_enter Try.func50, Try.ntmps50
    go_wp2_with (first | ((with_reducible refine gate_callee (f := 22) rfl ?_); refine goesL_ (some 20) rfl rfl Try.func22 (by kernel_rfl) rfl #[.slice A0 l0.length c0] rfl (by (try simp only [List.map_toArray, List.map_cons, List.map_nil]); first | done | rfl | (simp only [List.length_drop, List.length_take]; rfl)) ?_; (with_reducible refine (sheet_Right.calls _ _ l0 true _ ?side1 ?side2 A5.out).mono ?_); (case side1 => repeat (first | exact HR0.out | (with_reducible refine Kd.C_alloc ?_ _) | (with_reducible refine Kd.C_drewN ?_ _) | (with_reducible refine Kd.C_drew ?_))); (case side2 => exact HC0.out); rintro e w45 ⟨rfl, hb⟩; refine ⟨_, rfl, ?_⟩; have n0_ := Aside0.mk (below_step (by repeat (first | (with_reducible first | exact HB.out | apply below_alloc | apply pw_below_drewN | apply below_drew1) | exact HB.out)) hb); clear HB; have HB := n0_; clear n0_; (try clear hb); (try clear hb2); (try clear hk); (try clear hi)) | ((with_reducible refine gate_callee (f := 77) rfl ?_); refine goesL_ (some 24) rfl rfl Try.func77 (by kernel_rfl) rfl #[.string a1] rfl (by (try simp only [List.map_toArray, List.map_cons, List.map_nil]); first | done | rfl | (simp only [List.length_drop, List.length_take]; rfl)) ?_; (with_reducible refine (money_Code.calls a1 true _ A7.out).mono ?_); rintro e w46 ⟨rfl, hb⟩; refine ⟨_, rfl, ?_⟩; have n0_ := Aside0.mk (below_step (by repeat (first | (with_reducible first | exact HB.out | apply below_alloc | apply pw_below_drewN | apply below_drew1) | exact HB.out)) hb); clear HB; have HB := n0_; clear n0_; (try clear hb); (try clear hb2); (try clear hk); (try clear hi)) | ((with_reducible refine gate_callee (f := 78) rfl ?_); refine goesL_ (some 28) rfl rfl Try.func78 (by kernel_rfl) rfl #[.string a2] rfl (by (try simp only [List.map_toArray, List.map_cons, List.map_nil]); first | done | rfl | (simp only [List.length_drop, List.length_take]; rfl)) ?_; (with_reducible refine (words_Code.calls a2 false _ A9.out).mono ?_); rintro e w' ⟨rfl, ⟨nd, rfl⟩⟩; refine ⟨_, rfl, ?_⟩))
    go_ret2
    exact ⟨_, by first | rfl | (simp [errW_none, errW_some] <;> rfl) | (simp [*, errW_none, errW_some] <;> rfl), by first | exact Kd.R_nil _ _ _ _ _ | exact Kd.N_nil _ _ _ _ _ | exact Kd.V_nil _ _ _ _ _ | exact Kd.Q_nil _ _ _ _ _ | exact Kd.S_nil _ _ _ _ _, by repeat (first | (with_reducible first | exact HB.out | apply below_alloc | apply pw_below_drewN | apply below_drew1) | exact HB.out)⟩
  ·replace c8 := Bool.eq_false_iff.mpr c8
   subst c8
   have H1 : (some (([] : List (S34)), 13)) = some (r1, r2) := by rw [if_neg (show ¬ (false = true) by decide)] at H; exact H
   clear H
   have H := H1
   clear H1
   simp only [Option.some.injEq, Prod.mk.injEq] at H
   obtain ⟨rfl, rfl⟩ := H
   go_enter Try.func50, Try.ntmps50
   go_wp2_with (first | ((with_reducible refine gate_callee (f := 22) rfl ?_); refine goesL_ (some 20) rfl rfl Try.func22 (by kernel_rfl) rfl #[.slice A0 l0.length c0] rfl (by (try simp only [List.map_toArray, List.map_cons, List.map_nil]); first | done | rfl | (simp only [List.length_drop, List.length_take]; rfl)) ?_; (with_reducible refine (sheet_Right.calls _ _ l0 true _ ?side1 ?side2 A5.out).mono ?_); (case side1 => repeat (first | exact HR0.out | (with_reducible refine Kd.C_alloc ?_ _) | (with_reducible refine Kd.C_drewN ?_ _) | (with_reducible refine Kd.C_drew ?_))); (case side2 => exact HC0.out); rintro e w47 ⟨rfl, hb⟩; refine ⟨_, rfl, ?_⟩; have n0_ := Aside0.mk (below_step (by repeat (first | (with_reducible first | exact HB.out | apply below_alloc | apply pw_below_drewN | apply below_drew1) | exact HB.out)) hb); clear HB; have HB := n0_; clear n0_; (try clear hb); (try clear hb2); (try clear hk); (try clear hi)) | ((with_reducible refine gate_callee (f := 77) rfl ?_); refine goesL_ (some 24) rfl rfl Try.func77 (by kernel_rfl) rfl #[.string a1] rfl (by (try simp only [List.map_toArray, List.map_cons, List.map_nil]); first | done | rfl | (simp only [List.length_drop, List.length_take]; rfl)) ?_; (with_reducible refine (money_Code.calls a1 false _ A7.out).mono ?_); rintro e w48 ⟨rfl, hb⟩; refine ⟨_, rfl, ?_⟩; have n0_ := Aside0.mk (below_step (by repeat (first | (with_reducible first | exact HB.out | apply below_alloc | apply pw_below_drewN | apply below_drew1) | exact HB.out)) hb); clear HB; have HB := n0_; clear n0_; (try clear hb); (try clear hb2); (try clear hk); (try clear hi)))
   go_ret2
   exact ⟨_, by first | rfl | (simp [errW_none, errW_some] <;> rfl) | (simp [*, errW_none, errW_some] <;> rfl), by first | exact Kd.R_nil _ _ _ _ _ | exact Kd.N_nil _ _ _ _ _ | exact Kd.V_nil _ _ _ _ _ | exact Kd.Q_nil _ _ _ _ _ | exact Kd.S_nil _ _ _ _ _, by repeat (first | (with_reducible first | exact HB.out | apply below_alloc | apply pw_below_drewN | apply below_drew1) | exact HB.out)⟩
 ·replace c6 := Bool.eq_false_iff.mpr c6
  subst c6
  have H1 : (some (([] : List (S34)), 2)) = some (r1, r2) := by rw [if_neg (show ¬ (false = true) by decide)] at H; exact H
  clear H
  have H := H1
  clear H1
  simp only [Option.some.injEq, Prod.mk.injEq] at H
  obtain ⟨rfl, rfl⟩ := H
  go_enter Try.func50, Try.ntmps50
  go_wp2_with (first | ((with_reducible refine gate_callee (f := 22) rfl ?_); refine goesL_ (some 20) rfl rfl Try.func22 (by kernel_rfl) rfl #[.slice A0 l0.length c0] rfl (by (try simp only [List.map_toArray, List.map_cons, List.map_nil]); first | done | rfl | (simp only [List.length_drop, List.length_take]; rfl)) ?_; (with_reducible refine (sheet_Right.calls _ _ l0 false _ ?side1 ?side2 A5.out).mono ?_); (case side1 => repeat (first | exact HR0.out | (with_reducible refine Kd.C_alloc ?_ _) | (with_reducible refine Kd.C_drewN ?_ _) | (with_reducible refine Kd.C_drew ?_))); (case side2 => exact HC0.out); rintro e w49 ⟨rfl, hb⟩; refine ⟨_, rfl, ?_⟩; have n0_ := Aside0.mk (below_step (by repeat (first | (with_reducible first | exact HB.out | apply below_alloc | apply pw_below_drewN | apply below_drew1) | exact HB.out)) hb); clear HB; have HB := n0_; clear n0_; (try clear hb); (try clear hb2); (try clear hk); (try clear hi)))
  go_ret2
  exact ⟨_, by first | rfl | (simp [errW_none, errW_some] <;> rfl) | (simp [*, errW_none, errW_some] <;> rfl), by first | exact Kd.R_nil _ _ _ _ _ | exact Kd.N_nil _ _ _ _ _ | exact Kd.V_nil _ _ _ _ _ | exact Kd.Q_nil _ _ _ _ _ | exact Kd.S_nil _ _ _ _ _, by repeat (first | (with_reducible first | exact HB.out | apply below_alloc | apply pw_below_drewN | apply below_drew1) | exact HB.out)⟩
/-! ### interco_Pairs: function 47 -/
def interco_Pairs.f (k : Nat) (l0 : List (S34)) (l1 : List ByteArray) : Option ((List (S89)) × Int) := (sheet_Right.f l0).bind fun t565 => (if t565 = true then ((interco_Inside.f k l0 l1).bind fun bt566 => ((interco_pairs.f bt566.1).bind fun bt572 => (some (bt572.1, bt572.2)))) else (some (([] : List (S89)), 2)))
theorem interco_Pairs.mono : ∀ a0 a1 k, LeO (interco_Pairs.f k a0 a1) (interco_Pairs.f (k + 1) a0 a1) := by
  intro a0 a1 k
  unfold interco_Pairs.f
  repeat' first
      | (with_reducible exact interco_Inside.mono _ _ _)
      | (with_reducible exact LeO.refl _)
      | (with_reducible exact LeO.none _)
      | (with_reducible refine LeO.ite ?_ ?_)
      | (with_reducible refine LeO.bind ?_ (fun _ => ?_))
      | exact interco_Inside.mono _ _ _
      | exact LeO.none _
      | refine LeO.ite ?_ ?_
      | refine LeO.bind ?_ (fun _ => ?_)
set_option maxHeartbeats 8000000 in
set_option maxRecDepth 100000 in
theorem interco_Pairs.calls (k : Nat) (A0 : Option Addr) (c0 : Nat) (l0 : List (S34)) (A1 : Option Addr) (c1 : Nat) (l1 : List ByteArray) (r1 : List (S89)) (r2 : Int) (w : World) (hr0 : Kd.C k34 w A0 l0.length l0) (hc0 : l0.length ≤ c0) (hr1 : Kd.C Kd.string w A1 l1.length l1) (hc1 : l1.length ≤ c1) (h : interco_Pairs.f k l0 l1 = some (r1, r2)) :
    Calls Try.prog 47 #[.slice A0 l0.length c0, .slice A1 l1.length c1] w fun e w' => ∃ v0_ : Value, e = .returned (.tuple #[v0_, .int .i64 r2]) ∧ Kd.R k89 89 w' w.heap.size (fun _ => True) v0_ r1 ∧ Below w.heap.size w w' := by
  have HR0 := Aside0.mk hr0
  have HC0 := Aside0.mk hc0
  clear hr0 hc0
  have HR1 := Aside0.mk hr1
  have HC1 := Aside0.mk hc1
  clear hr1 hc1
  have HB := Aside0.mk (Below.refl w.heap.size w)
  have H : ((sheet_Right.f l0).bind fun t565 => (if t565 = true then ((interco_Inside.f k l0 l1).bind fun bt566 => ((interco_pairs.f bt566.1).bind fun bt572 => (some (bt572.1, bt572.2)))) else (some (([] : List (S89)), 2)))) = some (r1, r2) := h
  clear h
  replace H := Option.bind_eq_some_iff.mp H
  obtain ⟨t565, A30, H⟩ := H
  replace H : (if t565 = true then ((interco_Inside.f k l0 l1).bind fun bt566 => ((interco_pairs.f bt566.1).bind fun bt572 => (some (bt572.1, bt572.2)))) else (some (([] : List (S89)), 2))) = some (r1, r2) := H
  have A3 := Aside0.mk A30
  clear A30
  by_cases c4 : t565 = true
  · subst c4
    have H1 : ((interco_Inside.f k l0 l1).bind fun bt566 => ((interco_pairs.f bt566.1).bind fun bt572 => (some (bt572.1, bt572.2)))) = some (r1, r2) := by rw [if_pos rfl] at H; exact H
    clear H
    have H := H1
    clear H1
    replace H := Option.bind_eq_some_iff.mp H
    obtain ⟨⟨t566, t567⟩, A50, H⟩ := H
    replace H : ((interco_pairs.f t566).bind fun bt572 => (some (bt572.1, bt572.2))) = some (r1, r2) := H
    have A5 := Aside0.mk A50
    clear A50
    replace H := Option.bind_eq_some_iff.mp H
    obtain ⟨⟨t572, t573⟩, A60, H⟩ := H
    replace H : (some (t572, t573)) = some (r1, r2) := H
    have A6 := Aside0.mk A60
    clear A60
    simp only [Option.some.injEq, Prod.mk.injEq] at H
    obtain ⟨rfl, rfl⟩ := H
    go_enter Try.func47, Try.ntmps47
    go_wp2_with (first | ((with_reducible refine gate_callee (f := 22) rfl ?_); refine goesL_ (some 9) rfl rfl Try.func22 (by kernel_rfl) rfl #[.slice A0 l0.length c0] rfl (by (try simp only [List.map_toArray, List.map_cons, List.map_nil]); first | done | rfl | (simp only [List.length_drop, List.length_take]; rfl)) ?_; (with_reducible refine (sheet_Right.calls _ _ l0 true _ ?side1 ?side2 A3.out).mono ?_); (case side1 => repeat (first | exact HR0.out | (with_reducible refine Kd.C_alloc ?_ _) | (with_reducible refine Kd.C_drewN ?_ _) | (with_reducible refine Kd.C_drew ?_))); (case side2 => exact HC0.out); rintro e w7 ⟨rfl, hb⟩; refine ⟨_, rfl, ?_⟩; have n0_ := Aside0.mk (below_step (by repeat (first | (with_reducible first | exact HB.out | apply below_alloc | apply pw_below_drewN | apply below_drew1) | exact HB.out)) hb); clear HB; have HB := n0_; clear n0_; (try clear hb); (try clear hb2); (try clear hk); (try clear hi)) | ((with_reducible refine gate_callee (f := 44) rfl ?_); refine goesL_ (some 14) rfl rfl Try.func44 (by kernel_rfl) rfl #[.slice A0 l0.length c0, .slice A1 l1.length c1] rfl (by (try simp only [List.map_toArray, List.map_cons, List.map_nil]); first | done | rfl | (simp only [List.length_drop, List.length_take]; rfl)) ?_; (with_reducible refine (interco_Inside.calls k _ _ l0 _ _ l1 t566 t567 _ ?side1 ?side2 ?side3 ?side4 A5.out).mono ?_); (case side1 => repeat (first | exact (Kd.C_below HR0.out HB.out) | exact (Kd.C_drewN (Kd.C_below HR0.out HB.out) _) | (with_reducible refine Kd.C_alloc ?_ _) | (with_reducible refine Kd.C_drewN ?_ _) | (with_reducible refine Kd.C_drew ?_))); (case side2 => exact HC0.out); (case side3 => repeat (first | exact (Kd.C_below HR1.out HB.out) | exact (Kd.C_drewN (Kd.C_below HR1.out HB.out) _) | (with_reducible refine Kd.C_alloc ?_ _) | (with_reducible refine Kd.C_drewN ?_ _) | (with_reducible refine Kd.C_drew ?_))); (case side4 => exact HC1.out); rintro e w8 ⟨v568, v570, rfl, ho0, ho1, hb⟩; refine ⟨_, rfl, ?_⟩; have n0_ := Aside0.mk (Kd.R_lower ho0 (below_size (by repeat (first | (with_reducible first | exact HB.out | apply below_alloc | apply pw_below_drewN | apply below_drew1) | exact HB.out)))); have n1_ := Aside0.mk (Kd.R_lower ho1 (below_size (by repeat (first | (with_reducible first | exact HB.out | apply below_alloc | apply pw_below_drewN | apply below_drew1) | exact HB.out)))); have n2_ := Aside0.mk (below_step (by repeat (first | (with_reducible first | exact HB.out | apply below_alloc | apply pw_below_drewN | apply below_drew1) | exact HB.out)) hb); clear HB; have HO569 := n0_; have HO571 := n1_; have HB := n2_; clear n0_ n1_ n2_; (try clear hb); (try clear hb2); (try clear hk); (try clear hi); (try clear ho0); (try clear ho1); obtain ⟨Ao9, co9, eo9⟩ := Kd.R_slice HO569.out; subst eo9) | ((with_reducible refine gate_callee (f := 75) rfl ?_); refine goesL_ (some 18) rfl rfl Try.func75 (by kernel_rfl) rfl #[.slice Ao9 t566.length co9] rfl (by (try simp only [List.map_toArray, List.map_cons, List.map_nil]); first | done | rfl | (simp only [List.length_drop, List.length_take]; rfl)) ?_; (with_reducible refine (interco_pairs.calls _ _ t566 t572 t573 _ ?side1 ?side2 A6.out).mono ?_); (case side1 => repeat (first | exact (Kd.R_reads' HO569.out).2.2 | (with_reducible refine Kd.C_alloc ?_ _) | (with_reducible refine Kd.C_drewN ?_ _) | (with_reducible refine Kd.C_drew ?_))); (case side2 => exact (Kd.R_reads' HO569.out).2.1); rintro e w10 ⟨v574, rfl, ho0, hb⟩; refine ⟨_, rfl, ?_⟩; have n0_ := Aside0.mk (Kd.R_below (by (with_reducible repeat (first | apply Kd.R_alloc | apply Kd.R_drewN | apply Kd.R_drew)); exact HO569.out) hb); have n1_ := Aside0.mk (Kd.R_below (by (with_reducible repeat (first | apply Kd.R_alloc | apply Kd.R_drewN | apply Kd.R_drew)); exact HO571.out) hb); have n2_ := Aside0.mk (Kd.R_lower ho0 (below_size (by repeat (first | (with_reducible first | exact HB.out | apply below_alloc | apply pw_below_drewN | apply below_drew1) | exact HB.out)))); have n3_ := Aside0.mk (below_step (by repeat (first | (with_reducible first | exact HB.out | apply below_alloc | apply pw_below_drewN | apply below_drew1) | exact HB.out)) hb); clear HO569; clear HO571; clear HB; have HO569 := n0_; have HO571 := n1_; have HO575 := n2_; have HB := n3_; clear n0_ n1_ n2_ n3_; (try clear hb); (try clear hb2); (try clear hk); (try clear hi); (try clear ho0)))
    go_ret2
    exact ⟨_, by first | rfl | (simp [errW_none, errW_some] <;> rfl) | (simp [*, errW_none, errW_some] <;> rfl), by (with_reducible repeat (first | apply Kd.R_alloc | apply Kd.R_drewN | apply Kd.R_drew)); exact HO575.out, by repeat (first | (with_reducible first | exact HB.out | apply below_alloc | apply pw_below_drewN | apply below_drew1) | exact HB.out)⟩
  · replace c4 := Bool.eq_false_iff.mpr c4
    subst c4
    have H1 : (some (([] : List (S89)), 2)) = some (r1, r2) := by rw [if_neg (show ¬ (false = true) by decide)] at H; exact H
    clear H
    have H := H1
    clear H1
    simp only [Option.some.injEq, Prod.mk.injEq] at H
    obtain ⟨rfl, rfl⟩ := H
    go_enter Try.func47, Try.ntmps47
    go_wp2_with (first | ((with_reducible refine gate_callee (f := 22) rfl ?_); refine goesL_ (some 9) rfl rfl Try.func22 (by kernel_rfl) rfl #[.slice A0 l0.length c0] rfl (by (try simp only [List.map_toArray, List.map_cons, List.map_nil]); first | done | rfl | (simp only [List.length_drop, List.length_take]; rfl)) ?_; (with_reducible refine (sheet_Right.calls _ _ l0 false _ ?side1 ?side2 A3.out).mono ?_); (case side1 => repeat (first | exact HR0.out | (with_reducible refine Kd.C_alloc ?_ _) | (with_reducible refine Kd.C_drewN ?_ _) | (with_reducible refine Kd.C_drew ?_))); (case side2 => exact HC0.out); rintro e w11 ⟨rfl, hb⟩; refine ⟨_, rfl, ?_⟩; have n0_ := Aside0.mk (below_step (by repeat (first | (with_reducible first | exact HB.out | apply below_alloc | apply pw_below_drewN | apply below_drew1) | exact HB.out)) hb); clear HB; have HB := n0_; clear n0_; (try clear hb); (try clear hb2); (try clear hk); (try clear hi)))
    go_ret2
    exact ⟨_, by first | rfl | (simp [errW_none, errW_some] <;> rfl) | (simp [*, errW_none, errW_some] <;> rfl), by first | exact Kd.R_nil _ _ _ _ _ | exact Kd.N_nil _ _ _ _ _ | exact Kd.V_nil _ _ _ _ _ | exact Kd.Q_nil _ _ _ _ _ | exact Kd.S_nil _ _ _ _ _, by repeat (first | (with_reducible first | exact HB.out | apply below_alloc | apply pw_below_drewN | apply below_drew1) | exact HB.out)⟩
/-! ### accountinglaw44_lives: function 46 -/
def accountinglaw44_lives.f (k : Nat)  : Option (Bool) := (accountinglaw44_cell.f (⟨#[97]⟩ : ByteArray) (⟨#[49, 48]⟩ : ByteArray) (⟨#[]⟩ : ByteArray) 50).bind fun bt606 => ((accountinglaw44_cell.f (⟨#[97]⟩ : ByteArray) (⟨#[49, 54]⟩ : ByteArray) (⟨#[98]⟩ : ByteArray) 100).bind fun bt613 => ((accountinglaw44_cell.f (⟨#[97]⟩ : ByteArray) (⟨#[49, 54]⟩ : ByteArray) (⟨#[99]⟩ : ByteArray) 5).bind fun bt620 => ((accountinglaw44_cell.f (⟨#[98]⟩ : ByteArray) (⟨#[50, 52]⟩ : ByteArray) (⟨#[97]⟩ : ByteArray) (-97)).bind fun bt627 => ((some (([(⟨(⟨bt606.1, bt606.2.1, bt606.2.2.1, bt606.2.2.2.1, bt606.2.2.2.2.1⟩ : S32), bt606.2.2.2.2.2.1, bt606.2.2.2.2.2.2⟩ : S34), (⟨(⟨bt613.1, bt613.2.1, bt613.2.2.1, bt613.2.2.2.1, bt613.2.2.2.2.1⟩ : S32), bt613.2.2.2.2.2.1, bt613.2.2.2.2.2.2⟩ : S34), (⟨(⟨bt620.1, bt620.2.1, bt620.2.2.1, bt620.2.2.2.1, bt620.2.2.2.2.1⟩ : S32), bt620.2.2.2.2.2.1, bt620.2.2.2.2.2.2⟩ : S34), (⟨(⟨bt627.1, bt627.2.1, bt627.2.2.1, bt627.2.2.2.1, bt627.2.2.2.2.1⟩ : S32), bt627.2.2.2.2.2.1, bt627.2.2.2.2.2.2⟩ : S34)] : List (S34)) : List (S34))).bind fun y634 => ((interco_Inside.f k y634 (([(⟨#[97]⟩ : ByteArray), (⟨#[98]⟩ : ByteArray)] : List ByteArray))).bind fun bt640 => ((interco_Pairs.f k y634 (([(⟨#[98]⟩ : ByteArray), (⟨#[97]⟩ : ByteArray)] : List ByteArray))).bind fun bt649 => ((interco_Eliminate.f k y634 (⟨#[69, 85, 82]⟩ : ByteArray) (⟨#[51, 57]⟩ : ByteArray) (([(⟨#[97]⟩ : ByteArray), (⟨#[98]⟩ : ByteArray)] : List ByteArray))).bind fun bt656 => (if (bt640.1.length : Int) = 2 then (if (bt640.2.length : Int) = 2 then ((accountingref44_Same.f k bt649.1 (([(⟨(⟨#[97]⟩ : ByteArray), (⟨#[98]⟩ : ByteArray), 3⟩ : S89)] : List (S89)))).bind fun t663 => (if t663 = true then (if bt649.2 = 0 then ((accountinglaw44_cell.f (⟨#[97]⟩ : ByteArray) (⟨#[49, 54]⟩ : ByteArray) (⟨#[98]⟩ : ByteArray) (-100)).bind fun bt664 => ((accountinglaw44_cell.f (⟨#[97]⟩ : ByteArray) (⟨#[51, 57]⟩ : ByteArray) (⟨#[]⟩ : ByteArray) 3).bind fun bt671 => ((accountinglaw44_cell.f (⟨#[98]⟩ : ByteArray) (⟨#[50, 52]⟩ : ByteArray) (⟨#[97]⟩ : ByteArray) 97).bind fun bt678 => ((accountingref19_Same.f k bt656.1 (([(⟨(⟨bt664.1, bt664.2.1, bt664.2.2.1, bt664.2.2.2.1, bt664.2.2.2.2.1⟩ : S32), bt664.2.2.2.2.2.1, bt664.2.2.2.2.2.2⟩ : S34), (⟨(⟨bt671.1, bt671.2.1, bt671.2.2.1, bt671.2.2.2.1, bt671.2.2.2.2.1⟩ : S32), bt671.2.2.2.2.2.1, bt671.2.2.2.2.2.2⟩ : S34), (⟨(⟨bt678.1, bt678.2.1, bt678.2.2.1, bt678.2.2.2.1, bt678.2.2.2.2.1⟩ : S32), bt678.2.2.2.2.2.1, bt678.2.2.2.2.2.2⟩ : S34)] : List (S34)))).bind fun t688 => (if t688 = true then (some (bt656.2 == 0)) else (some false)))))) else (some false)) else (some false))) else (some false)) else (some false)))))))))
theorem accountinglaw44_lives.mono : ∀ k, LeO (accountinglaw44_lives.f k ) (accountinglaw44_lives.f (k + 1) ) := by
 intro  k
 unfold accountinglaw44_lives.f
 repeat' first
   | (with_reducible exact accountingref19_Same.mono _ _ _)
   | (with_reducible exact accountingref44_Same.mono _ _ _)
   | (with_reducible exact interco_Eliminate.mono _ _ _ _ _)
   | (with_reducible exact interco_Inside.mono _ _ _)
   | (with_reducible exact interco_Pairs.mono _ _ _)
   | (with_reducible exact LeO.refl _)
   | (with_reducible exact LeO.none _)
   | (with_reducible refine LeO.ite ?_ ?_)
   | (with_reducible refine LeO.bind ?_ (fun _ => ?_))
   | exact accountingref19_Same.mono _ _ _
   | exact accountingref44_Same.mono _ _ _
   | exact interco_Eliminate.mono _ _ _ _ _
   | exact interco_Inside.mono _ _ _
   | exact interco_Pairs.mono _ _ _
   | exact LeO.none _
   | refine LeO.ite ?_ ?_
   | refine LeO.bind ?_ (fun _ => ?_)
set_option maxHeartbeats 8000000 in
set_option maxRecDepth 100000 in
theorem accountinglaw44_lives.calls_true (k : Nat)  (r : Bool) (w : World) (h : accountinglaw44_lives.f k  = some r) (hrt : r = true) :
  Calls Try.prog 46 #[] w fun e w' => e = .returned (.bool r) ∧ Below w.heap.size w w' := by
 have HRT := Aside0.mk hrt
 clear hrt
 have hu89 := Try.underlying89
 have HB := Aside0.mk (Below.refl w.heap.size w)
 have H : ((accountinglaw44_cell.f (⟨#[97]⟩ : ByteArray) (⟨#[49, 48]⟩ : ByteArray) (⟨#[]⟩ : ByteArray) 50).bind fun bt606 => ((accountinglaw44_cell.f (⟨#[97]⟩ : ByteArray) (⟨#[49, 54]⟩ : ByteArray) (⟨#[98]⟩ : ByteArray) 100).bind fun bt613 => ((accountinglaw44_cell.f (⟨#[97]⟩ : ByteArray) (⟨#[49, 54]⟩ : ByteArray) (⟨#[99]⟩ : ByteArray) 5).bind fun bt620 => ((accountinglaw44_cell.f (⟨#[98]⟩ : ByteArray) (⟨#[50, 52]⟩ : ByteArray) (⟨#[97]⟩ : ByteArray) (-97)).bind fun bt627 => ((some (([(⟨(⟨bt606.1, bt606.2.1, bt606.2.2.1, bt606.2.2.2.1, bt606.2.2.2.2.1⟩ : S32), bt606.2.2.2.2.2.1, bt606.2.2.2.2.2.2⟩ : S34), (⟨(⟨bt613.1, bt613.2.1, bt613.2.2.1, bt613.2.2.2.1, bt613.2.2.2.2.1⟩ : S32), bt613.2.2.2.2.2.1, bt613.2.2.2.2.2.2⟩ : S34), (⟨(⟨bt620.1, bt620.2.1, bt620.2.2.1, bt620.2.2.2.1, bt620.2.2.2.2.1⟩ : S32), bt620.2.2.2.2.2.1, bt620.2.2.2.2.2.2⟩ : S34), (⟨(⟨bt627.1, bt627.2.1, bt627.2.2.1, bt627.2.2.2.1, bt627.2.2.2.2.1⟩ : S32), bt627.2.2.2.2.2.1, bt627.2.2.2.2.2.2⟩ : S34)] : List (S34)) : List (S34))).bind fun y634 => ((interco_Inside.f k y634 (([(⟨#[97]⟩ : ByteArray), (⟨#[98]⟩ : ByteArray)] : List ByteArray))).bind fun bt640 => ((interco_Pairs.f k y634 (([(⟨#[98]⟩ : ByteArray), (⟨#[97]⟩ : ByteArray)] : List ByteArray))).bind fun bt649 => ((interco_Eliminate.f k y634 (⟨#[69, 85, 82]⟩ : ByteArray) (⟨#[51, 57]⟩ : ByteArray) (([(⟨#[97]⟩ : ByteArray), (⟨#[98]⟩ : ByteArray)] : List ByteArray))).bind fun bt656 => (if (bt640.1.length : Int) = 2 then (if (bt640.2.length : Int) = 2 then ((accountingref44_Same.f k bt649.1 (([(⟨(⟨#[97]⟩ : ByteArray), (⟨#[98]⟩ : ByteArray), 3⟩ : S89)] : List (S89)))).bind fun t663 => (if t663 = true then (if bt649.2 = 0 then ((accountinglaw44_cell.f (⟨#[97]⟩ : ByteArray) (⟨#[49, 54]⟩ : ByteArray) (⟨#[98]⟩ : ByteArray) (-100)).bind fun bt664 => ((accountinglaw44_cell.f (⟨#[97]⟩ : ByteArray) (⟨#[51, 57]⟩ : ByteArray) (⟨#[]⟩ : ByteArray) 3).bind fun bt671 => ((accountinglaw44_cell.f (⟨#[98]⟩ : ByteArray) (⟨#[50, 52]⟩ : ByteArray) (⟨#[97]⟩ : ByteArray) 97).bind fun bt678 => ((accountingref19_Same.f k bt656.1 (([(⟨(⟨bt664.1, bt664.2.1, bt664.2.2.1, bt664.2.2.2.1, bt664.2.2.2.2.1⟩ : S32), bt664.2.2.2.2.2.1, bt664.2.2.2.2.2.2⟩ : S34), (⟨(⟨bt671.1, bt671.2.1, bt671.2.2.1, bt671.2.2.2.1, bt671.2.2.2.2.1⟩ : S32), bt671.2.2.2.2.2.1, bt671.2.2.2.2.2.2⟩ : S34), (⟨(⟨bt678.1, bt678.2.1, bt678.2.2.1, bt678.2.2.2.1, bt678.2.2.2.2.1⟩ : S32), bt678.2.2.2.2.2.1, bt678.2.2.2.2.2.2⟩ : S34)] : List (S34)))).bind fun t688 => (if t688 = true then (some (bt656.2 == 0)) else (some false)))))) else (some false)) else (some false))) else (some false)) else (some false)))))))))) = some r := h
 clear h
 replace H := Option.bind_eq_some_iff.mp H
 obtain ⟨⟨t606, t607, t608, t609, t610, t611, t612⟩, A10, H⟩ := H
 try dsimp only at H
 have A1 := Aside0.mk A10
 clear A10
 replace H := Option.bind_eq_some_iff.mp H
 obtain ⟨⟨t613, t614, t615, t616, t617, t618, t619⟩, A20, H⟩ := H
 try dsimp only at H
 have A2 := Aside0.mk A20
 clear A20
 replace H := Option.bind_eq_some_iff.mp H
 obtain ⟨⟨t620, t621, t622, t623, t624, t625, t626⟩, A30, H⟩ := H
 try dsimp only at H
 have A3 := Aside0.mk A30
 clear A30
 replace H := Option.bind_eq_some_iff.mp H
 obtain ⟨⟨t627, t628, t629, t630, t631, t632, t633⟩, A40, H⟩ := H
 try dsimp only at H
 have A4 := Aside0.mk A40
 clear A40
 obtain ⟨y634, hy634⟩ : ∃ y_ : List (S34), y_ = (([(⟨(⟨t606, t607, t608, t609, t610⟩ : S32), t611, t612⟩ : S34), (⟨(⟨t613, t614, t615, t616, t617⟩ : S32), t618, t619⟩ : S34), (⟨(⟨t620, t621, t622, t623, t624⟩ : S32), t625, t626⟩ : S34), (⟨(⟨t627, t628, t629, t630, t631⟩ : S32), t632, t633⟩ : S34)] : List (S34))) := ⟨_, rfl⟩
 replace H : ((interco_Inside.f k y634 (([(⟨#[97]⟩ : ByteArray), (⟨#[98]⟩ : ByteArray)] : List ByteArray))).bind fun bt640 => ((interco_Pairs.f k y634 (([(⟨#[98]⟩ : ByteArray), (⟨#[97]⟩ : ByteArray)] : List ByteArray))).bind fun bt649 => ((interco_Eliminate.f k y634 (⟨#[69, 85, 82]⟩ : ByteArray) (⟨#[51, 57]⟩ : ByteArray) (([(⟨#[97]⟩ : ByteArray), (⟨#[98]⟩ : ByteArray)] : List ByteArray))).bind fun bt656 => (if (bt640.1.length : Int) = 2 then (if (bt640.2.length : Int) = 2 then ((accountingref44_Same.f k bt649.1 (([(⟨(⟨#[97]⟩ : ByteArray), (⟨#[98]⟩ : ByteArray), 3⟩ : S89)] : List (S89)))).bind fun t663 => (if t663 = true then (if bt649.2 = 0 then ((accountinglaw44_cell.f (⟨#[97]⟩ : ByteArray) (⟨#[49, 54]⟩ : ByteArray) (⟨#[98]⟩ : ByteArray) (-100)).bind fun bt664 => ((accountinglaw44_cell.f (⟨#[97]⟩ : ByteArray) (⟨#[51, 57]⟩ : ByteArray) (⟨#[]⟩ : ByteArray) 3).bind fun bt671 => ((accountinglaw44_cell.f (⟨#[98]⟩ : ByteArray) (⟨#[50, 52]⟩ : ByteArray) (⟨#[97]⟩ : ByteArray) 97).bind fun bt678 => ((accountingref19_Same.f k bt656.1 (([(⟨(⟨bt664.1, bt664.2.1, bt664.2.2.1, bt664.2.2.2.1, bt664.2.2.2.2.1⟩ : S32), bt664.2.2.2.2.2.1, bt664.2.2.2.2.2.2⟩ : S34), (⟨(⟨bt671.1, bt671.2.1, bt671.2.2.1, bt671.2.2.2.1, bt671.2.2.2.2.1⟩ : S32), bt671.2.2.2.2.2.1, bt671.2.2.2.2.2.2⟩ : S34), (⟨(⟨bt678.1, bt678.2.1, bt678.2.2.1, bt678.2.2.2.1, bt678.2.2.2.2.1⟩ : S32), bt678.2.2.2.2.2.1, bt678.2.2.2.2.2.2⟩ : S34)] : List (S34)))).bind fun t688 => (if t688 = true then (some (bt656.2 == 0)) else (some false)))))) else (some false)) else (some false))) else (some false)) else (some false))))) = some r := by first | (rw [hy634]; with_reducible exact H) | (have H2_ := (Option.bind_some _ _).symm.trans H; rw [hy634]; with_reducible exact H2_) | (have H2_ := (Option.bind_some _ _).symm.trans H; with_reducible exact H2_) | with_reducible exact H | (rw [hy634]; exact H) | exact H
 have Ny634 := Aside0.mk hy634
 clear hy634
 obtain ⟨y637, hy637⟩ : ∃ y_ : List ByteArray, y_ = (([(⟨#[97]⟩ : ByteArray), (⟨#[98]⟩ : ByteArray)] : List ByteArray)) := ⟨_, rfl⟩
 replace H : ((interco_Inside.f k y634 y637).bind fun bt640 => ((interco_Pairs.f k y634 (([(⟨#[98]⟩ : ByteArray), (⟨#[97]⟩ : ByteArray)] : List ByteArray))).bind fun bt649 => ((interco_Eliminate.f k y634 (⟨#[69, 85, 82]⟩ : ByteArray) (⟨#[51, 57]⟩ : ByteArray) (([(⟨#[97]⟩ : ByteArray), (⟨#[98]⟩ : ByteArray)] : List ByteArray))).bind fun bt656 => (if (bt640.1.length : Int) = 2 then (if (bt640.2.length : Int) = 2 then ((accountingref44_Same.f k bt649.1 (([(⟨(⟨#[97]⟩ : ByteArray), (⟨#[98]⟩ : ByteArray), 3⟩ : S89)] : List (S89)))).bind fun t663 => (if t663 = true then (if bt649.2 = 0 then ((accountinglaw44_cell.f (⟨#[97]⟩ : ByteArray) (⟨#[49, 54]⟩ : ByteArray) (⟨#[98]⟩ : ByteArray) (-100)).bind fun bt664 => ((accountinglaw44_cell.f (⟨#[97]⟩ : ByteArray) (⟨#[51, 57]⟩ : ByteArray) (⟨#[]⟩ : ByteArray) 3).bind fun bt671 => ((accountinglaw44_cell.f (⟨#[98]⟩ : ByteArray) (⟨#[50, 52]⟩ : ByteArray) (⟨#[97]⟩ : ByteArray) 97).bind fun bt678 => ((accountingref19_Same.f k bt656.1 (([(⟨(⟨bt664.1, bt664.2.1, bt664.2.2.1, bt664.2.2.2.1, bt664.2.2.2.2.1⟩ : S32), bt664.2.2.2.2.2.1, bt664.2.2.2.2.2.2⟩ : S34), (⟨(⟨bt671.1, bt671.2.1, bt671.2.2.1, bt671.2.2.2.1, bt671.2.2.2.2.1⟩ : S32), bt671.2.2.2.2.2.1, bt671.2.2.2.2.2.2⟩ : S34), (⟨(⟨bt678.1, bt678.2.1, bt678.2.2.1, bt678.2.2.2.1, bt678.2.2.2.2.1⟩ : S32), bt678.2.2.2.2.2.1, bt678.2.2.2.2.2.2⟩ : S34)] : List (S34)))).bind fun t688 => (if t688 = true then (some (bt656.2 == 0)) else (some false)))))) else (some false)) else (some false))) else (some false)) else (some false))))) = some r := by first | (rw [hy637]; with_reducible exact H) | (have H2_ := (Option.bind_some _ _).symm.trans H; rw [hy637]; with_reducible exact H2_) | (have H2_ := (Option.bind_some _ _).symm.trans H; with_reducible exact H2_) | with_reducible exact H | (rw [hy637]; exact H) | exact H
 have Ny637 := Aside0.mk hy637
 clear hy637
 replace H := Option.bind_eq_some_iff.mp H
 obtain ⟨⟨t640, t641⟩, A50, H⟩ := H
 try dsimp only at H
 have A5 := Aside0.mk A50
 clear A50
 obtain ⟨y646, hy646⟩ : ∃ y_ : List ByteArray, y_ = (([(⟨#[98]⟩ : ByteArray), (⟨#[97]⟩ : ByteArray)] : List ByteArray)) := ⟨_, rfl⟩
 replace H : ((interco_Pairs.f k y634 y646).bind fun bt649 => ((interco_Eliminate.f k y634 (⟨#[69, 85, 82]⟩ : ByteArray) (⟨#[51, 57]⟩ : ByteArray) (([(⟨#[97]⟩ : ByteArray), (⟨#[98]⟩ : ByteArray)] : List ByteArray))).bind fun bt656 => (if (t640.length : Int) = 2 then (if (t641.length : Int) = 2 then ((accountingref44_Same.f k bt649.1 (([(⟨(⟨#[97]⟩ : ByteArray), (⟨#[98]⟩ : ByteArray), 3⟩ : S89)] : List (S89)))).bind fun t663 => (if t663 = true then (if bt649.2 = 0 then ((accountinglaw44_cell.f (⟨#[97]⟩ : ByteArray) (⟨#[49, 54]⟩ : ByteArray) (⟨#[98]⟩ : ByteArray) (-100)).bind fun bt664 => ((accountinglaw44_cell.f (⟨#[97]⟩ : ByteArray) (⟨#[51, 57]⟩ : ByteArray) (⟨#[]⟩ : ByteArray) 3).bind fun bt671 => ((accountinglaw44_cell.f (⟨#[98]⟩ : ByteArray) (⟨#[50, 52]⟩ : ByteArray) (⟨#[97]⟩ : ByteArray) 97).bind fun bt678 => ((accountingref19_Same.f k bt656.1 (([(⟨(⟨bt664.1, bt664.2.1, bt664.2.2.1, bt664.2.2.2.1, bt664.2.2.2.2.1⟩ : S32), bt664.2.2.2.2.2.1, bt664.2.2.2.2.2.2⟩ : S34), (⟨(⟨bt671.1, bt671.2.1, bt671.2.2.1, bt671.2.2.2.1, bt671.2.2.2.2.1⟩ : S32), bt671.2.2.2.2.2.1, bt671.2.2.2.2.2.2⟩ : S34), (⟨(⟨bt678.1, bt678.2.1, bt678.2.2.1, bt678.2.2.2.1, bt678.2.2.2.2.1⟩ : S32), bt678.2.2.2.2.2.1, bt678.2.2.2.2.2.2⟩ : S34)] : List (S34)))).bind fun t688 => (if t688 = true then (some (bt656.2 == 0)) else (some false)))))) else (some false)) else (some false))) else (some false)) else (some false)))) = some r := by first | (rw [hy646]; with_reducible exact H) | (have H2_ := (Option.bind_some _ _).symm.trans H; rw [hy646]; with_reducible exact H2_) | (have H2_ := (Option.bind_some _ _).symm.trans H; with_reducible exact H2_) | with_reducible exact H | (rw [hy646]; exact H) | exact H
 have Ny646 := Aside0.mk hy646
 clear hy646
 replace H := Option.bind_eq_some_iff.mp H
 obtain ⟨⟨t649, t650⟩, A60, H⟩ := H
 try dsimp only at H
 have A6 := Aside0.mk A60
 clear A60
 obtain ⟨y653, hy653⟩ : ∃ y_ : List ByteArray, y_ = (([(⟨#[97]⟩ : ByteArray), (⟨#[98]⟩ : ByteArray)] : List ByteArray)) := ⟨_, rfl⟩
 replace H : ((interco_Eliminate.f k y634 (⟨#[69, 85, 82]⟩ : ByteArray) (⟨#[51, 57]⟩ : ByteArray) y653).bind fun bt656 => (if (t640.length : Int) = 2 then (if (t641.length : Int) = 2 then ((accountingref44_Same.f k t649 (([(⟨(⟨#[97]⟩ : ByteArray), (⟨#[98]⟩ : ByteArray), 3⟩ : S89)] : List (S89)))).bind fun t663 => (if t663 = true then (if t650 = 0 then ((accountinglaw44_cell.f (⟨#[97]⟩ : ByteArray) (⟨#[49, 54]⟩ : ByteArray) (⟨#[98]⟩ : ByteArray) (-100)).bind fun bt664 => ((accountinglaw44_cell.f (⟨#[97]⟩ : ByteArray) (⟨#[51, 57]⟩ : ByteArray) (⟨#[]⟩ : ByteArray) 3).bind fun bt671 => ((accountinglaw44_cell.f (⟨#[98]⟩ : ByteArray) (⟨#[50, 52]⟩ : ByteArray) (⟨#[97]⟩ : ByteArray) 97).bind fun bt678 => ((accountingref19_Same.f k bt656.1 (([(⟨(⟨bt664.1, bt664.2.1, bt664.2.2.1, bt664.2.2.2.1, bt664.2.2.2.2.1⟩ : S32), bt664.2.2.2.2.2.1, bt664.2.2.2.2.2.2⟩ : S34), (⟨(⟨bt671.1, bt671.2.1, bt671.2.2.1, bt671.2.2.2.1, bt671.2.2.2.2.1⟩ : S32), bt671.2.2.2.2.2.1, bt671.2.2.2.2.2.2⟩ : S34), (⟨(⟨bt678.1, bt678.2.1, bt678.2.2.1, bt678.2.2.2.1, bt678.2.2.2.2.1⟩ : S32), bt678.2.2.2.2.2.1, bt678.2.2.2.2.2.2⟩ : S34)] : List (S34)))).bind fun t688 => (if t688 = true then (some (bt656.2 == 0)) else (some false)))))) else (some false)) else (some false))) else (some false)) else (some false))) = some r := by first | (rw [hy653]; with_reducible exact H) | (have H2_ := (Option.bind_some _ _).symm.trans H; rw [hy653]; with_reducible exact H2_) | (have H2_ := (Option.bind_some _ _).symm.trans H; with_reducible exact H2_) | with_reducible exact H | (rw [hy653]; exact H) | exact H
 have Ny653 := Aside0.mk hy653
 clear hy653
 replace H := Option.bind_eq_some_iff.mp H
 obtain ⟨⟨t656, t657⟩, A70, H⟩ := H
 try dsimp only at H
 have A7 := Aside0.mk A70
 clear A70
 by_cases c8 : (t640.length : Int) = 2
 ·rw [if_pos c8] at H
  have c8b0 : ((t640.length : Int) == 2) = true := beq_iff_eq.mpr c8
  have c8b1 : ((t640.length : Int) != 2) = false := bne_eq_false_iff_eq.mpr c8
  clear c8
  by_cases c9 : (t641.length : Int) = 2
  ·rw [if_pos c9] at H
   have c9b0 : ((t641.length : Int) == 2) = true := beq_iff_eq.mpr c9
   have c9b1 : ((t641.length : Int) != 2) = false := bne_eq_false_iff_eq.mpr c9
   clear c9
   obtain ⟨y660, hy660⟩ : ∃ y_ : List (S89), y_ = (([(⟨(⟨#[97]⟩ : ByteArray), (⟨#[98]⟩ : ByteArray), 3⟩ : S89)] : List (S89))) := ⟨_, rfl⟩
   replace H : ((accountingref44_Same.f k t649 y660).bind fun t663 => (if t663 = true then (if t650 = 0 then ((accountinglaw44_cell.f (⟨#[97]⟩ : ByteArray) (⟨#[49, 54]⟩ : ByteArray) (⟨#[98]⟩ : ByteArray) (-100)).bind fun bt664 => ((accountinglaw44_cell.f (⟨#[97]⟩ : ByteArray) (⟨#[51, 57]⟩ : ByteArray) (⟨#[]⟩ : ByteArray) 3).bind fun bt671 => ((accountinglaw44_cell.f (⟨#[98]⟩ : ByteArray) (⟨#[50, 52]⟩ : ByteArray) (⟨#[97]⟩ : ByteArray) 97).bind fun bt678 => ((accountingref19_Same.f k t656 (([(⟨(⟨bt664.1, bt664.2.1, bt664.2.2.1, bt664.2.2.2.1, bt664.2.2.2.2.1⟩ : S32), bt664.2.2.2.2.2.1, bt664.2.2.2.2.2.2⟩ : S34), (⟨(⟨bt671.1, bt671.2.1, bt671.2.2.1, bt671.2.2.2.1, bt671.2.2.2.2.1⟩ : S32), bt671.2.2.2.2.2.1, bt671.2.2.2.2.2.2⟩ : S34), (⟨(⟨bt678.1, bt678.2.1, bt678.2.2.1, bt678.2.2.2.1, bt678.2.2.2.2.1⟩ : S32), bt678.2.2.2.2.2.1, bt678.2.2.2.2.2.2⟩ : S34)] : List (S34)))).bind fun t688 => (if t688 = true then (some (t657 == 0)) else (some false)))))) else (some false)) else (some false))) = some r := by first | (rw [hy660]; with_reducible exact H) | (have H2_ := (Option.bind_some _ _).symm.trans H; rw [hy660]; with_reducible exact H2_) | (have H2_ := (Option.bind_some _ _).symm.trans H; with_reducible exact H2_) | with_reducible exact H | (rw [hy660]; exact H) | exact H
   have Ny660 := Aside0.mk hy660
   clear hy660
   replace H := Option.bind_eq_some_iff.mp H
   obtain ⟨t663, A100, H⟩ := H
   try dsimp only at H
   have A10 := Aside0.mk A100
   clear A100
   by_cases c11 : t663 = true
   ·subst c11
    have H1 : (if t650 = 0 then ((accountinglaw44_cell.f (⟨#[97]⟩ : ByteArray) (⟨#[49, 54]⟩ : ByteArray) (⟨#[98]⟩ : ByteArray) (-100)).bind fun bt664 => ((accountinglaw44_cell.f (⟨#[97]⟩ : ByteArray) (⟨#[51, 57]⟩ : ByteArray) (⟨#[]⟩ : ByteArray) 3).bind fun bt671 => ((accountinglaw44_cell.f (⟨#[98]⟩ : ByteArray) (⟨#[50, 52]⟩ : ByteArray) (⟨#[97]⟩ : ByteArray) 97).bind fun bt678 => ((accountingref19_Same.f k t656 (([(⟨(⟨bt664.1, bt664.2.1, bt664.2.2.1, bt664.2.2.2.1, bt664.2.2.2.2.1⟩ : S32), bt664.2.2.2.2.2.1, bt664.2.2.2.2.2.2⟩ : S34), (⟨(⟨bt671.1, bt671.2.1, bt671.2.2.1, bt671.2.2.2.1, bt671.2.2.2.2.1⟩ : S32), bt671.2.2.2.2.2.1, bt671.2.2.2.2.2.2⟩ : S34), (⟨(⟨bt678.1, bt678.2.1, bt678.2.2.1, bt678.2.2.2.1, bt678.2.2.2.2.1⟩ : S32), bt678.2.2.2.2.2.1, bt678.2.2.2.2.2.2⟩ : S34)] : List (S34)))).bind fun t688 => (if t688 = true then (some (t657 == 0)) else (some false)))))) else (some false)) = some r := by rw [if_pos rfl] at H; exact H
    clear H
    have H := H1
    clear H1
    by_cases c12 : t650 = 0
    ·rw [if_pos c12] at H
     have c12b0 : (t650 == 0) = true := beq_iff_eq.mpr c12
     have c12b1 : (t650 != 0) = false := bne_eq_false_iff_eq.mpr c12
     clear c12
     replace H := Option.bind_eq_some_iff.mp H
     obtain ⟨⟨t664, t665, t666, t667, t668, t669, t670⟩, A130, H⟩ := H
     try dsimp only at H
     have A13 := Aside0.mk A130
     clear A130
     replace H := Option.bind_eq_some_iff.mp H
     obtain ⟨⟨t671, t672, t673, t674, t675, t676, t677⟩, A140, H⟩ := H
     try dsimp only at H
     have A14 := Aside0.mk A140
     clear A140
     replace H := Option.bind_eq_some_iff.mp H
     obtain ⟨⟨t678, t679, t680, t681, t682, t683, t684⟩, A150, H⟩ := H
     try dsimp only at H
     have A15 := Aside0.mk A150
     clear A150
     obtain ⟨y685, hy685⟩ : ∃ y_ : List (S34), y_ = (([(⟨(⟨t664, t665, t666, t667, t668⟩ : S32), t669, t670⟩ : S34), (⟨(⟨t671, t672, t673, t674, t675⟩ : S32), t676, t677⟩ : S34), (⟨(⟨t678, t679, t680, t681, t682⟩ : S32), t683, t684⟩ : S34)] : List (S34))) := ⟨_, rfl⟩
     replace H : ((accountingref19_Same.f k t656 y685).bind fun t688 => (if t688 = true then (some (t657 == 0)) else (some false))) = some r := by first | (rw [hy685]; with_reducible exact H) | (have H2_ := (Option.bind_some _ _).symm.trans H; rw [hy685]; with_reducible exact H2_) | (have H2_ := (Option.bind_some _ _).symm.trans H; with_reducible exact H2_) | with_reducible exact H | (rw [hy685]; exact H) | exact H
     have Ny685 := Aside0.mk hy685
     clear hy685
     replace H := Option.bind_eq_some_iff.mp H
     obtain ⟨t688, A160, H⟩ := H
     replace H : (if t688 = true then (some (t657 == 0)) else (some false)) = some r := H
     have A16 := Aside0.mk A160
     clear A160
     by_cases c17 : t688 = true
     ·subst c17
      have H1 : (some (t657 == 0)) = some r := by rw [if_pos rfl] at H; exact H
      clear H
      have H := H1
      clear H1
      obtain rfl := Option.some.inj H
      go_enter Try.func46, Try.ntmps46
      go_wp2_with (first | ((with_reducible refine gate_callee (f := 74) rfl ?_); refine goesL_ (some 8) rfl rfl Try.func74 (by kernel_rfl) rfl #[.string (⟨#[97]⟩ : ByteArray), .string (⟨#[49, 48]⟩ : ByteArray), .string (⟨#[]⟩ : ByteArray), .int .i64 50] rfl (by (try simp only [List.map_toArray, List.map_cons, List.map_nil]); first | done | rfl | (simp only [List.length_drop, List.length_take]; rfl)) ?_; (with_reducible refine (accountinglaw44_cell.calls (⟨#[97]⟩ : ByteArray) (⟨#[49, 48]⟩ : ByteArray) (⟨#[]⟩ : ByteArray) 50 t606 t607 t608 t609 t610 t611 t612 _ A1.out).mono ?_); rintro e w18 ⟨rfl, hb⟩; refine ⟨_, rfl, ?_⟩; have n0_ := Aside0.mk (below_step (by repeat (first | (with_reducible first | exact HB.out | apply below_alloc | apply pw_below_drewN | apply below_drew1) | exact HB.out)) hb); clear HB; have HB := n0_; clear n0_; (try clear hb); (try clear hb2); (try clear hk); (try clear hi)) | ((with_reducible refine gate_callee (f := 74) rfl ?_); refine goesL_ (some 9) rfl rfl Try.func74 (by kernel_rfl) rfl #[.string (⟨#[97]⟩ : ByteArray), .string (⟨#[49, 54]⟩ : ByteArray), .string (⟨#[98]⟩ : ByteArray), .int .i64 100] rfl (by (try simp only [List.map_toArray, List.map_cons, List.map_nil]); first | done | rfl | (simp only [List.length_drop, List.length_take]; rfl)) ?_; (with_reducible refine (accountinglaw44_cell.calls (⟨#[97]⟩ : ByteArray) (⟨#[49, 54]⟩ : ByteArray) (⟨#[98]⟩ : ByteArray) 100 t613 t614 t615 t616 t617 t618 t619 _ A2.out).mono ?_); rintro e w19 ⟨rfl, hb⟩; refine ⟨_, rfl, ?_⟩; have n0_ := Aside0.mk (below_step (by repeat (first | (with_reducible first | exact HB.out | apply below_alloc | apply pw_below_drewN | apply below_drew1) | exact HB.out)) hb); clear HB; have HB := n0_; clear n0_; (try clear hb); (try clear hb2); (try clear hk); (try clear hi)) | ((with_reducible refine gate_callee (f := 74) rfl ?_); refine goesL_ (some 10) rfl rfl Try.func74 (by kernel_rfl) rfl #[.string (⟨#[97]⟩ : ByteArray), .string (⟨#[49, 54]⟩ : ByteArray), .string (⟨#[99]⟩ : ByteArray), .int .i64 5] rfl (by (try simp only [List.map_toArray, List.map_cons, List.map_nil]); first | done | rfl | (simp only [List.length_drop, List.length_take]; rfl)) ?_; (with_reducible refine (accountinglaw44_cell.calls (⟨#[97]⟩ : ByteArray) (⟨#[49, 54]⟩ : ByteArray) (⟨#[99]⟩ : ByteArray) 5 t620 t621 t622 t623 t624 t625 t626 _ A3.out).mono ?_); rintro e w20 ⟨rfl, hb⟩; refine ⟨_, rfl, ?_⟩; have n0_ := Aside0.mk (below_step (by repeat (first | (with_reducible first | exact HB.out | apply below_alloc | apply pw_below_drewN | apply below_drew1) | exact HB.out)) hb); clear HB; have HB := n0_; clear n0_; (try clear hb); (try clear hb2); (try clear hk); (try clear hi)) | ((with_reducible refine gate_callee (f := 74) rfl ?_); refine goesL_ (some 11) rfl rfl Try.func74 (by kernel_rfl) rfl #[.string (⟨#[98]⟩ : ByteArray), .string (⟨#[50, 52]⟩ : ByteArray), .string (⟨#[97]⟩ : ByteArray), .int .i64 (-97)] rfl (by (try simp only [List.map_toArray, List.map_cons, List.map_nil]); first | done | rfl | (simp only [List.length_drop, List.length_take]; rfl)) ?_; (with_reducible refine (accountinglaw44_cell.calls (⟨#[98]⟩ : ByteArray) (⟨#[50, 52]⟩ : ByteArray) (⟨#[97]⟩ : ByteArray) (-97) t627 t628 t629 t630 t631 t632 t633 _ A4.out).mono ?_); rintro e w21 ⟨rfl, hb⟩; refine ⟨_, rfl, ?_⟩; have n0_ := Aside0.mk (below_step (by repeat (first | (with_reducible first | exact HB.out | apply below_alloc | apply pw_below_drewN | apply below_drew1) | exact HB.out)) hb); clear HB; have HB := n0_; clear n0_; (try clear hb); (try clear hb2); (try clear hk); (try clear hi)) | ((with_reducible refine gate_dst (N := 12) rfl ?_); (try (refine gate_guard (by rfl) ?_; dsimp only)); refine Kd.R_lit k34 _ 34 ?hg (N := 12) ?hd (xs := ([(⟨(⟨t606, t607, t608, t609, t610⟩ : S32), t611, t612⟩ : S34), (⟨(⟨t613, t614, t615, t616, t617⟩ : S32), t618, t619⟩ : S34), (⟨(⟨t620, t621, t622, t623, t624⟩ : S32), t625, t626⟩ : S34), (⟨(⟨t627, t628, t629, t630, t631⟩ : S32), t632, t633⟩ : S34)] : List (S34))) (inner := [.string t606, .string t607, .string t608, .string t609, .string t610, .int .i64 t611, .int .i64 t612, .string t613, .string t614, .string t615, .string t616, .string t617, .int .i64 t618, .int .i64 t619, .string t620, .string t621, .string t622, .string t623, .string t624, .int .i64 t625, .int .i64 t626, .string t627, .string t628, .string t629, .string t630, .string t631, .int .i64 t632, .int .i64 t633]) (ok := fun _ => True) (okp := fun _ => True) ?hr ?hp (fun _ hk => hk) trivial (Below.refl _ _) (Nat.le_refl _) (by simp) ?_; (case hd => rfl); (case hg => rfl); (case hr => first | (go_simp; done) | (go_simp; rfl)); (case hp => exact (Reps.c7 (show Kd.M k34 _ _ _ (⟨(⟨t606, t607, t608, t609, t610⟩ : S32), t611, t612⟩ : S34) [.string t606, .string t607, .string t608, .string t609, .string t610, .int .i64 t611, .int .i64 t612] from (k34_mkM _ _ _ (⟨(⟨t606, t607, t608, t609, t610⟩ : S32), t611, t612⟩ : S34) )) (Reps.c7 (show Kd.M k34 _ _ _ (⟨(⟨t613, t614, t615, t616, t617⟩ : S32), t618, t619⟩ : S34) [.string t613, .string t614, .string t615, .string t616, .string t617, .int .i64 t618, .int .i64 t619] from (k34_mkM _ _ _ (⟨(⟨t613, t614, t615, t616, t617⟩ : S32), t618, t619⟩ : S34) )) (Reps.c7 (show Kd.M k34 _ _ _ (⟨(⟨t620, t621, t622, t623, t624⟩ : S32), t625, t626⟩ : S34) [.string t620, .string t621, .string t622, .string t623, .string t624, .int .i64 t625, .int .i64 t626] from (k34_mkM _ _ _ (⟨(⟨t620, t621, t622, t623, t624⟩ : S32), t625, t626⟩ : S34) )) (Reps.c7 (show Kd.M k34 _ _ _ (⟨(⟨t627, t628, t629, t630, t631⟩ : S32), t632, t633⟩ : S34) [.string t627, .string t628, .string t629, .string t630, .string t631, .int .i64 t632, .int .i64 t633] from (k34_mkM _ _ _ (⟨(⟨t627, t628, t629, t630, t631⟩ : S32), t632, t633⟩ : S34) )) (Reps.none _ _)))))); intro v635 w22 ho23 hb hg_ hnew_; clear hg_ hnew_; (first | rw [← Ny634.out] at ho23 | (simp only [Int.reduceToNat] at ho23; rw [← Ny634.out] at ho23)); have n0_ := Aside0.mk (Kd.R_lower ho23 (below_size (by repeat (first | (with_reducible first | exact HB.out | apply below_alloc | apply pw_below_drewN | apply below_drew1) | exact HB.out)))); have n1_ := Aside0.mk (below_step (by repeat (first | (with_reducible first | exact HB.out | apply below_alloc | apply pw_below_drewN | apply below_drew1) | exact HB.out)) hb); clear HB; have HO636 := n0_; have HB := n1_; clear n0_ n1_; clear hb ho23) | ((with_reducible refine gate_dst (N := 15) rfl ?_); (try (refine gate_guard (by rfl) ?_; dsimp only)); refine Kd.R_lit Kd.string _ 9 ?hg (N := 15) ?hd (xs := ([(⟨#[97]⟩ : ByteArray), (⟨#[98]⟩ : ByteArray)] : List ByteArray)) (inner := [.string (⟨#[97]⟩ : ByteArray), .string (⟨#[98]⟩ : ByteArray)]) (ok := fun _ => True) (okp := fun _ => True) ?hr ?hp (fun _ hk => hk) trivial (Below.refl _ _) (Nat.le_refl _) (by simp) ?_; (case hd => rfl); (case hg => rfl); (case hr => first | (go_simp; done) | (go_simp; rfl)); (case hp => exact (Reps.one (show Kd.M Kd.string _ _ _ (⟨#[97]⟩ : ByteArray) [.string (⟨#[97]⟩ : ByteArray)] from rfl) (Reps.one (show Kd.M Kd.string _ _ _ (⟨#[98]⟩ : ByteArray) [.string (⟨#[98]⟩ : ByteArray)] from rfl) (Reps.none _ _)))); intro v638 w24 ho25 hb hg_ hnew_; clear hg_ hnew_; (first | rw [← Ny637.out] at ho25 | (simp only [Int.reduceToNat] at ho25; rw [← Ny637.out] at ho25)); have n0_ := Aside0.mk (Kd.R_below (by (with_reducible repeat (first | apply Kd.R_alloc | apply Kd.R_drewN | apply Kd.R_drew)); exact HO636.out) hb); have n1_ := Aside0.mk (Kd.R_lower ho25 (below_size (by repeat (first | (with_reducible first | exact HB.out | apply below_alloc | apply pw_below_drewN | apply below_drew1) | exact HB.out)))); have n2_ := Aside0.mk (below_step (by repeat (first | (with_reducible first | exact HB.out | apply below_alloc | apply pw_below_drewN | apply below_drew1) | exact HB.out)) hb); clear HO636; clear HB; have HO636 := n0_; have HO639 := n1_; have HB := n2_; clear n0_ n1_ n2_; clear hb ho25; obtain ⟨Ao26, co26, eo26⟩ := Kd.R_slice HO636.out; subst eo26; obtain ⟨Ao27, co27, eo27⟩ := Kd.R_slice HO639.out; subst eo27) | ((with_reducible refine gate_callee (f := 44) rfl ?_); refine goesL_ (some 16) rfl rfl Try.func44 (by kernel_rfl) rfl #[.slice Ao26 y634.length co26, .slice Ao27 y637.length co27] rfl (by (try simp only [List.map_toArray, List.map_cons, List.map_nil]); first | done | rfl | (simp only [List.length_drop, List.length_take]; rfl)) ?_; (with_reducible refine (interco_Inside.calls k _ _ y634 _ _ y637 t640 t641 _ ?side1 ?side2 ?side3 ?side4 A5.out).mono ?_); (case side1 => repeat (first | exact (Kd.R_reads' HO636.out).2.2 | (with_reducible refine Kd.C_alloc ?_ _) | (with_reducible refine Kd.C_drewN ?_ _) | (with_reducible refine Kd.C_drew ?_))); (case side2 => exact (Kd.R_reads' HO636.out).2.1); (case side3 => repeat (first | exact (Kd.R_reads' HO639.out).2.2 | (with_reducible refine Kd.C_alloc ?_ _) | (with_reducible refine Kd.C_drewN ?_ _) | (with_reducible refine Kd.C_drew ?_))); (case side4 => exact (Kd.R_reads' HO639.out).2.1); rintro e w28 ⟨v642, v644, rfl, ho0, ho1, hb⟩; refine ⟨_, rfl, ?_⟩; have n0_ := Aside0.mk (Kd.R_mono (Kd.R_told (Kd.R_told (Kd.R_old (by (with_reducible repeat (first | apply Kd.R_alloc | apply Kd.R_drewN | apply Kd.R_drew)); exact HO636.out) hb) (Kd.R_base ho0)) (Kd.R_base ho1)) (fun _ h_ => h_.1)); have n1_ := Aside0.mk (Kd.R_below (by (with_reducible repeat (first | apply Kd.R_alloc | apply Kd.R_drewN | apply Kd.R_drew)); exact HO639.out) hb); have n2_ := Aside0.mk (Kd.R_lower (Kd.R_new' ho0 (Kd.R_lt (by (with_reducible repeat (first | apply Kd.R_alloc | apply Kd.R_drewN | apply Kd.R_drew)); exact HO636.out))) (below_size (by repeat (first | (with_reducible first | exact HB.out | apply below_alloc | apply pw_below_drewN | apply below_drew1) | exact HB.out)))); have n3_ := Aside0.mk (Kd.R_lower (Kd.R_new' ho1 (Kd.R_lt (by (with_reducible repeat (first | apply Kd.R_alloc | apply Kd.R_drewN | apply Kd.R_drew)); exact HO636.out))) (below_size (by repeat (first | (with_reducible first | exact HB.out | apply below_alloc | apply pw_below_drewN | apply below_drew1) | exact HB.out)))); have n4_ := Aside0.mk (below_step (by repeat (first | (with_reducible first | exact HB.out | apply below_alloc | apply pw_below_drewN | apply below_drew1) | exact HB.out)) hb); clear HO636; clear HO639; clear HB; have HO636 := n0_; have HO639 := n1_; have HO643 := n2_; have HO645 := n3_; have HB := n4_; clear n0_ n1_ n2_ n3_ n4_; (try clear hb); (try clear hb2); (try clear hk); (try clear hi); (try clear ho0); (try clear ho1)) | ((with_reducible refine gate_dst (N := 21) rfl ?_); (try (refine gate_guard (by rfl) ?_; dsimp only)); refine Kd.R_lit Kd.string _ 9 ?hg (N := 21) ?hd (xs := ([(⟨#[98]⟩ : ByteArray), (⟨#[97]⟩ : ByteArray)] : List ByteArray)) (inner := [.string (⟨#[98]⟩ : ByteArray), .string (⟨#[97]⟩ : ByteArray)]) (ok := fun _ => True) (okp := fun _ => True) ?hr ?hp (fun _ hk => hk) trivial (Below.refl _ _) (Nat.le_refl _) (by simp) ?_; (case hd => rfl); (case hg => rfl); (case hr => first | (go_simp; done) | (go_simp; rfl)); (case hp => exact (Reps.one (show Kd.M Kd.string _ _ _ (⟨#[98]⟩ : ByteArray) [.string (⟨#[98]⟩ : ByteArray)] from rfl) (Reps.one (show Kd.M Kd.string _ _ _ (⟨#[97]⟩ : ByteArray) [.string (⟨#[97]⟩ : ByteArray)] from rfl) (Reps.none _ _)))); intro v647 w29 ho30 hb hg_ hnew_; clear hg_ hnew_; (first | rw [← Ny646.out] at ho30 | (simp only [Int.reduceToNat] at ho30; rw [← Ny646.out] at ho30)); have n0_ := Aside0.mk (Kd.R_below (by (with_reducible repeat (first | apply Kd.R_alloc | apply Kd.R_drewN | apply Kd.R_drew)); exact HO636.out) hb); have n1_ := Aside0.mk (Kd.R_elder' (by (with_reducible repeat (first | apply Kd.R_alloc | apply Kd.R_drewN | apply Kd.R_drew)); exact HO639.out) (Kd.R_base ho30) hb); have n2_ := Aside0.mk (Kd.R_below (by (with_reducible repeat (first | apply Kd.R_alloc | apply Kd.R_drewN | apply Kd.R_drew)); exact HO643.out) hb); have n3_ := Aside0.mk (Kd.R_below (by (with_reducible repeat (first | apply Kd.R_alloc | apply Kd.R_drewN | apply Kd.R_drew)); exact HO645.out) hb); have n4_ := Aside0.mk (Kd.R_lower (Kd.R_new' ho30 (Kd.R_lt (by (with_reducible repeat (first | apply Kd.R_alloc | apply Kd.R_drewN | apply Kd.R_drew)); exact HO639.out))) (below_size (by repeat (first | (with_reducible first | exact HB.out | apply below_alloc | apply pw_below_drewN | apply below_drew1) | exact HB.out)))); have n5_ := Aside0.mk (below_step (by repeat (first | (with_reducible first | exact HB.out | apply below_alloc | apply pw_below_drewN | apply below_drew1) | exact HB.out)) hb); clear HO636; clear HO639; clear HO643; clear HO645; clear HB; have HO636 := n0_; have HO639 := n1_; have HO643 := n2_; have HO645 := n3_; have HO648 := n4_; have HB := n5_; clear n0_ n1_ n2_ n3_ n4_ n5_; clear hb ho30; obtain ⟨Ao31, co31, eo31⟩ := Kd.R_slice HO648.out; subst eo31) | ((with_reducible refine gate_callee (f := 47) rfl ?_); refine goesL_ (some 22) rfl rfl Try.func47 (by kernel_rfl) rfl #[.slice Ao26 y634.length co26, .slice Ao31 y646.length co31] rfl (by (try simp only [List.map_toArray, List.map_cons, List.map_nil]); first | done | rfl | (simp only [List.length_drop, List.length_take]; rfl)) ?_; (with_reducible refine (interco_Pairs.calls k _ _ y634 _ _ y646 t649 t650 _ ?side1 ?side2 ?side3 ?side4 A6.out).mono ?_); (case side1 => repeat (first | exact (Kd.R_reads' HO636.out).2.2 | (with_reducible refine Kd.C_alloc ?_ _) | (with_reducible refine Kd.C_drewN ?_ _) | (with_reducible refine Kd.C_drew ?_))); (case side2 => exact (Kd.R_reads' HO636.out).2.1); (case side3 => repeat (first | exact (Kd.R_reads' HO648.out).2.2 | (with_reducible refine Kd.C_alloc ?_ _) | (with_reducible refine Kd.C_drewN ?_ _) | (with_reducible refine Kd.C_drew ?_))); (case side4 => exact (Kd.R_reads' HO648.out).2.1); rintro e w32 ⟨v651, rfl, ho0, hb⟩; refine ⟨_, rfl, ?_⟩; have n0_ := Aside0.mk (Kd.R_below (by (with_reducible repeat (first | apply Kd.R_alloc | apply Kd.R_drewN | apply Kd.R_drew)); exact HO636.out) hb); have n1_ := Aside0.mk (Kd.R_below (by (with_reducible repeat (first | apply Kd.R_alloc | apply Kd.R_drewN | apply Kd.R_drew)); exact HO639.out) hb); have n2_ := Aside0.mk (Kd.R_below (by (with_reducible repeat (first | apply Kd.R_alloc | apply Kd.R_drewN | apply Kd.R_drew)); exact HO643.out) hb); have n3_ := Aside0.mk (Kd.R_below (by (with_reducible repeat (first | apply Kd.R_alloc | apply Kd.R_drewN | apply Kd.R_drew)); exact HO645.out) hb); have n4_ := Aside0.mk (Kd.R_below (by (with_reducible repeat (first | apply Kd.R_alloc | apply Kd.R_drewN | apply Kd.R_drew)); exact HO648.out) hb); have n5_ := Aside0.mk (Kd.R_lower ho0 (below_size (by repeat (first | (with_reducible first | exact HB.out | apply below_alloc | apply pw_below_drewN | apply below_drew1) | exact HB.out)))); have n6_ := Aside0.mk (below_step (by repeat (first | (with_reducible first | exact HB.out | apply below_alloc | apply pw_below_drewN | apply below_drew1) | exact HB.out)) hb); clear HO636; clear HO639; clear HO643; clear HO645; clear HO648; clear HB; have HO636 := n0_; have HO639 := n1_; have HO643 := n2_; have HO645 := n3_; have HO648 := n4_; have HO652 := n5_; have HB := n6_; clear n0_ n1_ n2_ n3_ n4_ n5_ n6_; (try clear hb); (try clear hb2); (try clear hk); (try clear hi); (try clear ho0)) | ((with_reducible refine gate_dst (N := 27) rfl ?_); (try (refine gate_guard (by rfl) ?_; dsimp only)); refine Kd.R_lit Kd.string _ 9 ?hg (N := 27) ?hd (xs := ([(⟨#[97]⟩ : ByteArray), (⟨#[98]⟩ : ByteArray)] : List ByteArray)) (inner := [.string (⟨#[97]⟩ : ByteArray), .string (⟨#[98]⟩ : ByteArray)]) (ok := fun _ => True) (okp := fun _ => True) ?hr ?hp (fun _ hk => hk) trivial (Below.refl _ _) (Nat.le_refl _) (by simp) ?_; (case hd => rfl); (case hg => rfl); (case hr => first | (go_simp; done) | (go_simp; rfl)); (case hp => exact (Reps.one (show Kd.M Kd.string _ _ _ (⟨#[97]⟩ : ByteArray) [.string (⟨#[97]⟩ : ByteArray)] from rfl) (Reps.one (show Kd.M Kd.string _ _ _ (⟨#[98]⟩ : ByteArray) [.string (⟨#[98]⟩ : ByteArray)] from rfl) (Reps.none _ _)))); intro v654 w33 ho34 hb hg_ hnew_; clear hg_ hnew_; (first | rw [← Ny653.out] at ho34 | (simp only [Int.reduceToNat] at ho34; rw [← Ny653.out] at ho34)); have n0_ := Aside0.mk (Kd.R_below (by (with_reducible repeat (first | apply Kd.R_alloc | apply Kd.R_drewN | apply Kd.R_drew)); exact HO636.out) hb); have n1_ := Aside0.mk (Kd.R_elder' (by (with_reducible repeat (first | apply Kd.R_alloc | apply Kd.R_drewN | apply Kd.R_drew)); exact HO639.out) (Kd.R_base ho34) hb); have n2_ := Aside0.mk (Kd.R_below (by (with_reducible repeat (first | apply Kd.R_alloc | apply Kd.R_drewN | apply Kd.R_drew)); exact HO643.out) hb); have n3_ := Aside0.mk (Kd.R_below (by (with_reducible repeat (first | apply Kd.R_alloc | apply Kd.R_drewN | apply Kd.R_drew)); exact HO645.out) hb); have n4_ := Aside0.mk (Kd.R_elder' (by (with_reducible repeat (first | apply Kd.R_alloc | apply Kd.R_drewN | apply Kd.R_drew)); exact HO648.out) (Kd.R_base ho34) hb); have n5_ := Aside0.mk (Kd.R_below (by (with_reducible repeat (first | apply Kd.R_alloc | apply Kd.R_drewN | apply Kd.R_drew)); exact HO652.out) hb); have n6_ := Aside0.mk (Kd.R_lower (Kd.R_new' (Kd.R_new' ho34 (Kd.R_lt (by (with_reducible repeat (first | apply Kd.R_alloc | apply Kd.R_drewN | apply Kd.R_drew)); exact HO639.out))) (Kd.R_lt (by (with_reducible repeat (first | apply Kd.R_alloc | apply Kd.R_drewN | apply Kd.R_drew)); exact HO648.out))) (below_size (by repeat (first | (with_reducible first | exact HB.out | apply below_alloc | apply pw_below_drewN | apply below_drew1) | exact HB.out)))); have n7_ := Aside0.mk (below_step (by repeat (first | (with_reducible first | exact HB.out | apply below_alloc | apply pw_below_drewN | apply below_drew1) | exact HB.out)) hb); clear HO636; clear HO639; clear HO643; clear HO645; clear HO648; clear HO652; clear HB; have HO636 := n0_; have HO639 := n1_; have HO643 := n2_; have HO645 := n3_; have HO648 := n4_; have HO652 := n5_; have HO655 := n6_; have HB := n7_; clear n0_ n1_ n2_ n3_ n4_ n5_ n6_ n7_; clear hb ho34; obtain ⟨Ao35, co35, eo35⟩ := Kd.R_slice HO655.out; subst eo35) | ((with_reducible refine gate_callee (f := 50) rfl ?_); refine goesL_ (some 28) rfl rfl Try.func50 (by kernel_rfl) rfl #[.slice Ao26 y634.length co26, .string (⟨#[69, 85, 82]⟩ : ByteArray), .string (⟨#[51, 57]⟩ : ByteArray), .slice Ao35 y653.length co35] rfl (by (try simp only [List.map_toArray, List.map_cons, List.map_nil]); first | done | rfl | (simp only [List.length_drop, List.length_take]; rfl)) ?_; (with_reducible refine (interco_Eliminate.calls k _ _ y634 (⟨#[69, 85, 82]⟩ : ByteArray) (⟨#[51, 57]⟩ : ByteArray) _ _ y653 t656 t657 _ ?side1 ?side2 ?side3 ?side4 A7.out).mono ?_); (case side1 => repeat (first | exact (Kd.R_reads' HO636.out).2.2 | (with_reducible refine Kd.C_alloc ?_ _) | (with_reducible refine Kd.C_drewN ?_ _) | (with_reducible refine Kd.C_drew ?_))); (case side2 => exact (Kd.R_reads' HO636.out).2.1); (case side3 => repeat (first | exact (Kd.R_reads' HO655.out).2.2 | (with_reducible refine Kd.C_alloc ?_ _) | (with_reducible refine Kd.C_drewN ?_ _) | (with_reducible refine Kd.C_drew ?_))); (case side4 => exact (Kd.R_reads' HO655.out).2.1); rintro e w36 ⟨v658, rfl, ho0, hb⟩; refine ⟨_, rfl, ?_⟩; have n0_ := Aside0.mk (Kd.R_elder' (by (with_reducible repeat (first | apply Kd.R_alloc | apply Kd.R_drewN | apply Kd.R_drew)); exact HO636.out) (Kd.R_base ho0) hb); have n1_ := Aside0.mk (Kd.R_below (by (with_reducible repeat (first | apply Kd.R_alloc | apply Kd.R_drewN | apply Kd.R_drew)); exact HO639.out) hb); have n2_ := Aside0.mk (Kd.R_elder' (by (with_reducible repeat (first | apply Kd.R_alloc | apply Kd.R_drewN | apply Kd.R_drew)); exact HO643.out) (Kd.R_base ho0) hb); have n3_ := Aside0.mk (Kd.R_elder' (by (with_reducible repeat (first | apply Kd.R_alloc | apply Kd.R_drewN | apply Kd.R_drew)); exact HO645.out) (Kd.R_base ho0) hb); have n4_ := Aside0.mk (Kd.R_below (by (with_reducible repeat (first | apply Kd.R_alloc | apply Kd.R_drewN | apply Kd.R_drew)); exact HO648.out) hb); have n5_ := Aside0.mk (Kd.R_below (by (with_reducible repeat (first | apply Kd.R_alloc | apply Kd.R_drewN | apply Kd.R_drew)); exact HO652.out) hb); have n6_ := Aside0.mk (Kd.R_below (by (with_reducible repeat (first | apply Kd.R_alloc | apply Kd.R_drewN | apply Kd.R_drew)); exact HO655.out) hb); have n7_ := Aside0.mk (Kd.R_lower (Kd.R_new' (Kd.R_new' (Kd.R_new' ho0 (Kd.R_lt (by (with_reducible repeat (first | apply Kd.R_alloc | apply Kd.R_drewN | apply Kd.R_drew)); exact HO636.out))) (Kd.R_lt (by (with_reducible repeat (first | apply Kd.R_alloc | apply Kd.R_drewN | apply Kd.R_drew)); exact HO643.out))) (Kd.R_lt (by (with_reducible repeat (first | apply Kd.R_alloc | apply Kd.R_drewN | apply Kd.R_drew)); exact HO645.out))) (below_size (by repeat (first | (with_reducible first | exact HB.out | apply below_alloc | apply pw_below_drewN | apply below_drew1) | exact HB.out)))); have n8_ := Aside0.mk (below_step (by repeat (first | (with_reducible first | exact HB.out | apply below_alloc | apply pw_below_drewN | apply below_drew1) | exact HB.out)) hb); clear HO636; clear HO639; clear HO643; clear HO645; clear HO648; clear HO652; clear HO655; clear HB; have HO636 := n0_; have HO639 := n1_; have HO643 := n2_; have HO645 := n3_; have HO648 := n4_; have HO652 := n5_; have HO655 := n6_; have HO659 := n7_; have HB := n8_; clear n0_ n1_ n2_ n3_ n4_ n5_ n6_ n7_ n8_; (try clear hb); (try clear hb2); (try clear hk); (try clear hi); (try clear ho0); obtain ⟨Ao37, co37, eo37⟩ := Kd.R_slice HO643.out; subst eo37; obtain ⟨Ao38, co38, eo38⟩ := Kd.R_slice HO645.out; subst eo38) | ((with_reducible refine gate_dst (N := 42) rfl ?_); (try (refine gate_guard (by rfl) ?_; dsimp only)); refine Kd.R_lit k89 _ 89 ?hg (N := 42) ?hd (xs := ([(⟨(⟨#[97]⟩ : ByteArray), (⟨#[98]⟩ : ByteArray), 3⟩ : S89)] : List (S89))) (inner := [.string (⟨#[97]⟩ : ByteArray), .string (⟨#[98]⟩ : ByteArray), .int .i64 3]) (ok := fun _ => True) (okp := fun _ => True) ?hr ?hp (fun _ hk => hk) trivial (Below.refl _ _) (Nat.le_refl _) (by simp) ?_; (case hd => rfl); (case hg => rfl); (case hr => first | (go_simp; done) | (go_simp; rfl)); (case hp => exact (Reps.c3 (show Kd.M k89 _ _ _ (⟨(⟨#[97]⟩ : ByteArray), (⟨#[98]⟩ : ByteArray), 3⟩ : S89) [.string (⟨#[97]⟩ : ByteArray), .string (⟨#[98]⟩ : ByteArray), .int .i64 3] from (k89_mkM _ _ _ (⟨(⟨#[97]⟩ : ByteArray), (⟨#[98]⟩ : ByteArray), 3⟩ : S89) )) (Reps.none _ _))); intro v661 w39 ho40 hb hg_ hnew_; clear hg_ hnew_; (first | rw [← Ny660.out] at ho40 | (simp only [Int.reduceToNat] at ho40; rw [← Ny660.out] at ho40)); have n0_ := Aside0.mk (Kd.R_below (by (with_reducible repeat (first | apply Kd.R_alloc | apply Kd.R_drewN | apply Kd.R_drew)); exact HO636.out) hb); have n1_ := Aside0.mk (Kd.R_below (by (with_reducible repeat (first | apply Kd.R_alloc | apply Kd.R_drewN | apply Kd.R_drew)); exact HO639.out) hb); have n2_ := Aside0.mk (Kd.R_below (by (with_reducible repeat (first | apply Kd.R_alloc | apply Kd.R_drewN | apply Kd.R_drew)); exact HO643.out) hb); have n3_ := Aside0.mk (Kd.R_below (by (with_reducible repeat (first | apply Kd.R_alloc | apply Kd.R_drewN | apply Kd.R_drew)); exact HO645.out) hb); have n4_ := Aside0.mk (Kd.R_below (by (with_reducible repeat (first | apply Kd.R_alloc | apply Kd.R_drewN | apply Kd.R_drew)); exact HO648.out) hb); have n5_ := Aside0.mk (Kd.R_elder' (by (with_reducible repeat (first | apply Kd.R_alloc | apply Kd.R_drewN | apply Kd.R_drew)); exact HO652.out) (Kd.R_base ho40) hb); have n6_ := Aside0.mk (Kd.R_below (by (with_reducible repeat (first | apply Kd.R_alloc | apply Kd.R_drewN | apply Kd.R_drew)); exact HO655.out) hb); have n7_ := Aside0.mk (Kd.R_below (by (with_reducible repeat (first | apply Kd.R_alloc | apply Kd.R_drewN | apply Kd.R_drew)); exact HO659.out) hb); have n8_ := Aside0.mk (Kd.R_lower (Kd.R_new' ho40 (Kd.R_lt (by (with_reducible repeat (first | apply Kd.R_alloc | apply Kd.R_drewN | apply Kd.R_drew)); exact HO652.out))) (below_size (by repeat (first | (with_reducible first | exact HB.out | apply below_alloc | apply pw_below_drewN | apply below_drew1) | exact HB.out)))); have n9_ := Aside0.mk (below_step (by repeat (first | (with_reducible first | exact HB.out | apply below_alloc | apply pw_below_drewN | apply below_drew1) | exact HB.out)) hb); clear HO636; clear HO639; clear HO643; clear HO645; clear HO648; clear HO652; clear HO655; clear HO659; clear HB; have HO636 := n0_; have HO639 := n1_; have HO643 := n2_; have HO645 := n3_; have HO648 := n4_; have HO652 := n5_; have HO655 := n6_; have HO659 := n7_; have HO662 := n8_; have HB := n9_; clear n0_ n1_ n2_ n3_ n4_ n5_ n6_ n7_ n8_ n9_; clear hb ho40; obtain ⟨Ao41, co41, eo41⟩ := Kd.R_slice HO652.out; subst eo41; obtain ⟨Ao42, co42, eo42⟩ := Kd.R_slice HO662.out; subst eo42) | (go_at_call 49; (with_reducible refine (accountingref44_Same.calls k _ _ t649 _ _ y660 true _ ?side1 ?side2 ?side3 ?side4 A10.out).mono ?_); (case side1 => repeat (first | exact (Kd.R_reads' HO652.out).2.2 | (with_reducible refine Kd.C_alloc ?_ _) | (with_reducible refine Kd.C_drewN ?_ _) | (with_reducible refine Kd.C_drew ?_))); (case side2 => exact (Kd.R_reads' HO652.out).2.1); (case side3 => repeat (first | exact (Kd.R_reads' HO662.out).2.2 | (with_reducible refine Kd.C_alloc ?_ _) | (with_reducible refine Kd.C_drewN ?_ _) | (with_reducible refine Kd.C_drew ?_))); (case side4 => exact (Kd.R_reads' HO662.out).2.1); rintro e w' ⟨rfl, ⟨nd, rfl⟩⟩) | (go_at_call 74; (with_reducible refine (accountinglaw44_cell.calls (⟨#[97]⟩ : ByteArray) (⟨#[49, 54]⟩ : ByteArray) (⟨#[98]⟩ : ByteArray) (-100) t664 t665 t666 t667 t668 t669 t670 _ A13.out).mono ?_); rintro e w43 ⟨rfl, hb⟩; have n0_ := Aside0.mk (Kd.R_below (by (with_reducible repeat (first | apply Kd.R_alloc | apply Kd.R_drewN | apply Kd.R_drew)); exact HO636.out) hb); have n1_ := Aside0.mk (Kd.R_below (by (with_reducible repeat (first | apply Kd.R_alloc | apply Kd.R_drewN | apply Kd.R_drew)); exact HO639.out) hb); have n2_ := Aside0.mk (Kd.R_below (by (with_reducible repeat (first | apply Kd.R_alloc | apply Kd.R_drewN | apply Kd.R_drew)); exact HO643.out) hb); have n3_ := Aside0.mk (Kd.R_below (by (with_reducible repeat (first | apply Kd.R_alloc | apply Kd.R_drewN | apply Kd.R_drew)); exact HO645.out) hb); have n4_ := Aside0.mk (Kd.R_below (by (with_reducible repeat (first | apply Kd.R_alloc | apply Kd.R_drewN | apply Kd.R_drew)); exact HO648.out) hb); have n5_ := Aside0.mk (Kd.R_below (by (with_reducible repeat (first | apply Kd.R_alloc | apply Kd.R_drewN | apply Kd.R_drew)); exact HO652.out) hb); have n6_ := Aside0.mk (Kd.R_below (by (with_reducible repeat (first | apply Kd.R_alloc | apply Kd.R_drewN | apply Kd.R_drew)); exact HO655.out) hb); have n7_ := Aside0.mk (Kd.R_below (by (with_reducible repeat (first | apply Kd.R_alloc | apply Kd.R_drewN | apply Kd.R_drew)); exact HO659.out) hb); have n8_ := Aside0.mk (Kd.R_below (by (with_reducible repeat (first | apply Kd.R_alloc | apply Kd.R_drewN | apply Kd.R_drew)); exact HO662.out) hb); have n9_ := Aside0.mk (below_step (by repeat (first | (with_reducible first | exact HB.out | apply below_alloc | apply pw_below_drewN | apply below_drew1) | exact HB.out)) hb); clear HO636; clear HO639; clear HO643; clear HO645; clear HO648; clear HO652; clear HO655; clear HO659; clear HO662; clear HB; have HO636 := n0_; have HO639 := n1_; have HO643 := n2_; have HO645 := n3_; have HO648 := n4_; have HO652 := n5_; have HO655 := n6_; have HO659 := n7_; have HO662 := n8_; have HB := n9_; clear n0_ n1_ n2_ n3_ n4_ n5_ n6_ n7_ n8_ n9_; (try clear hb); (try clear hb2); (try clear hk); (try clear hi)) | (go_at_call 74; (with_reducible refine (accountinglaw44_cell.calls (⟨#[97]⟩ : ByteArray) (⟨#[51, 57]⟩ : ByteArray) (⟨#[]⟩ : ByteArray) 3 t671 t672 t673 t674 t675 t676 t677 _ A14.out).mono ?_); rintro e w44 ⟨rfl, hb⟩; have n0_ := Aside0.mk (Kd.R_below (by (with_reducible repeat (first | apply Kd.R_alloc | apply Kd.R_drewN | apply Kd.R_drew)); exact HO636.out) hb); have n1_ := Aside0.mk (Kd.R_below (by (with_reducible repeat (first | apply Kd.R_alloc | apply Kd.R_drewN | apply Kd.R_drew)); exact HO639.out) hb); have n2_ := Aside0.mk (Kd.R_below (by (with_reducible repeat (first | apply Kd.R_alloc | apply Kd.R_drewN | apply Kd.R_drew)); exact HO643.out) hb); have n3_ := Aside0.mk (Kd.R_below (by (with_reducible repeat (first | apply Kd.R_alloc | apply Kd.R_drewN | apply Kd.R_drew)); exact HO645.out) hb); have n4_ := Aside0.mk (Kd.R_below (by (with_reducible repeat (first | apply Kd.R_alloc | apply Kd.R_drewN | apply Kd.R_drew)); exact HO648.out) hb); have n5_ := Aside0.mk (Kd.R_below (by (with_reducible repeat (first | apply Kd.R_alloc | apply Kd.R_drewN | apply Kd.R_drew)); exact HO652.out) hb); have n6_ := Aside0.mk (Kd.R_below (by (with_reducible repeat (first | apply Kd.R_alloc | apply Kd.R_drewN | apply Kd.R_drew)); exact HO655.out) hb); have n7_ := Aside0.mk (Kd.R_below (by (with_reducible repeat (first | apply Kd.R_alloc | apply Kd.R_drewN | apply Kd.R_drew)); exact HO659.out) hb); have n8_ := Aside0.mk (Kd.R_below (by (with_reducible repeat (first | apply Kd.R_alloc | apply Kd.R_drewN | apply Kd.R_drew)); exact HO662.out) hb); have n9_ := Aside0.mk (below_step (by repeat (first | (with_reducible first | exact HB.out | apply below_alloc | apply pw_below_drewN | apply below_drew1) | exact HB.out)) hb); clear HO636; clear HO639; clear HO643; clear HO645; clear HO648; clear HO652; clear HO655; clear HO659; clear HO662; clear HB; have HO636 := n0_; have HO639 := n1_; have HO643 := n2_; have HO645 := n3_; have HO648 := n4_; have HO652 := n5_; have HO655 := n6_; have HO659 := n7_; have HO662 := n8_; have HB := n9_; clear n0_ n1_ n2_ n3_ n4_ n5_ n6_ n7_ n8_ n9_; (try clear hb); (try clear hb2); (try clear hk); (try clear hi)) | (go_at_call 74; (with_reducible refine (accountinglaw44_cell.calls (⟨#[98]⟩ : ByteArray) (⟨#[50, 52]⟩ : ByteArray) (⟨#[97]⟩ : ByteArray) 97 t678 t679 t680 t681 t682 t683 t684 _ A15.out).mono ?_); rintro e w45 ⟨rfl, hb⟩; have n0_ := Aside0.mk (Kd.R_below (by (with_reducible repeat (first | apply Kd.R_alloc | apply Kd.R_drewN | apply Kd.R_drew)); exact HO636.out) hb); have n1_ := Aside0.mk (Kd.R_below (by (with_reducible repeat (first | apply Kd.R_alloc | apply Kd.R_drewN | apply Kd.R_drew)); exact HO639.out) hb); have n2_ := Aside0.mk (Kd.R_below (by (with_reducible repeat (first | apply Kd.R_alloc | apply Kd.R_drewN | apply Kd.R_drew)); exact HO643.out) hb); have n3_ := Aside0.mk (Kd.R_below (by (with_reducible repeat (first | apply Kd.R_alloc | apply Kd.R_drewN | apply Kd.R_drew)); exact HO645.out) hb); have n4_ := Aside0.mk (Kd.R_below (by (with_reducible repeat (first | apply Kd.R_alloc | apply Kd.R_drewN | apply Kd.R_drew)); exact HO648.out) hb); have n5_ := Aside0.mk (Kd.R_below (by (with_reducible repeat (first | apply Kd.R_alloc | apply Kd.R_drewN | apply Kd.R_drew)); exact HO652.out) hb); have n6_ := Aside0.mk (Kd.R_below (by (with_reducible repeat (first | apply Kd.R_alloc | apply Kd.R_drewN | apply Kd.R_drew)); exact HO655.out) hb); have n7_ := Aside0.mk (Kd.R_below (by (with_reducible repeat (first | apply Kd.R_alloc | apply Kd.R_drewN | apply Kd.R_drew)); exact HO659.out) hb); have n8_ := Aside0.mk (Kd.R_below (by (with_reducible repeat (first | apply Kd.R_alloc | apply Kd.R_drewN | apply Kd.R_drew)); exact HO662.out) hb); have n9_ := Aside0.mk (below_step (by repeat (first | (with_reducible first | exact HB.out | apply below_alloc | apply pw_below_drewN | apply below_drew1) | exact HB.out)) hb); clear HO636; clear HO639; clear HO643; clear HO645; clear HO648; clear HO652; clear HO655; clear HO659; clear HO662; clear HB; have HO636 := n0_; have HO639 := n1_; have HO643 := n2_; have HO645 := n3_; have HO648 := n4_; have HO652 := n5_; have HO655 := n6_; have HO659 := n7_; have HO662 := n8_; have HB := n9_; clear n0_ n1_ n2_ n3_ n4_ n5_ n6_ n7_ n8_ n9_; (try clear hb); (try clear hb2); (try clear hk); (try clear hi)) | ((with_reducible refine gate_dst (N := 54) rfl ?_); (try (refine gate_guard (by rfl) ?_; dsimp only)); refine Kd.R_lit k34 _ 34 ?hg (N := 54) ?hd (xs := ([(⟨(⟨t664, t665, t666, t667, t668⟩ : S32), t669, t670⟩ : S34), (⟨(⟨t671, t672, t673, t674, t675⟩ : S32), t676, t677⟩ : S34), (⟨(⟨t678, t679, t680, t681, t682⟩ : S32), t683, t684⟩ : S34)] : List (S34))) (inner := [.string t664, .string t665, .string t666, .string t667, .string t668, .int .i64 t669, .int .i64 t670, .string t671, .string t672, .string t673, .string t674, .string t675, .int .i64 t676, .int .i64 t677, .string t678, .string t679, .string t680, .string t681, .string t682, .int .i64 t683, .int .i64 t684]) (ok := fun _ => True) (okp := fun _ => True) ?hr ?hp (fun _ hk => hk) trivial (Below.refl _ _) (Nat.le_refl _) (by simp) ?_; (case hd => rfl); (case hg => rfl); (case hr => first | (go_simp; done) | (go_simp; rfl)); (case hp => exact (Reps.c7 (show Kd.M k34 _ _ _ (⟨(⟨t664, t665, t666, t667, t668⟩ : S32), t669, t670⟩ : S34) [.string t664, .string t665, .string t666, .string t667, .string t668, .int .i64 t669, .int .i64 t670] from (k34_mkM _ _ _ (⟨(⟨t664, t665, t666, t667, t668⟩ : S32), t669, t670⟩ : S34) )) (Reps.c7 (show Kd.M k34 _ _ _ (⟨(⟨t671, t672, t673, t674, t675⟩ : S32), t676, t677⟩ : S34) [.string t671, .string t672, .string t673, .string t674, .string t675, .int .i64 t676, .int .i64 t677] from (k34_mkM _ _ _ (⟨(⟨t671, t672, t673, t674, t675⟩ : S32), t676, t677⟩ : S34) )) (Reps.c7 (show Kd.M k34 _ _ _ (⟨(⟨t678, t679, t680, t681, t682⟩ : S32), t683, t684⟩ : S34) [.string t678, .string t679, .string t680, .string t681, .string t682, .int .i64 t683, .int .i64 t684] from (k34_mkM _ _ _ (⟨(⟨t678, t679, t680, t681, t682⟩ : S32), t683, t684⟩ : S34) )) (Reps.none _ _))))); intro v686 w46 ho47 hb hg_ hnew_; clear hg_ hnew_; (first | rw [← Ny685.out] at ho47 | (simp only [Int.reduceToNat] at ho47; rw [← Ny685.out] at ho47)); have n0_ := Aside0.mk (Kd.R_elder' (by (with_reducible repeat (first | apply Kd.R_alloc | apply Kd.R_drewN | apply Kd.R_drew)); exact HO636.out) (Kd.R_base ho47) hb); have n1_ := Aside0.mk (Kd.R_below (by (with_reducible repeat (first | apply Kd.R_alloc | apply Kd.R_drewN | apply Kd.R_drew)); exact HO639.out) hb); have n2_ := Aside0.mk (Kd.R_elder' (by (with_reducible repeat (first | apply Kd.R_alloc | apply Kd.R_drewN | apply Kd.R_drew)); exact HO643.out) (Kd.R_base ho47) hb); have n3_ := Aside0.mk (Kd.R_elder' (by (with_reducible repeat (first | apply Kd.R_alloc | apply Kd.R_drewN | apply Kd.R_drew)); exact HO645.out) (Kd.R_base ho47) hb); have n4_ := Aside0.mk (Kd.R_below (by (with_reducible repeat (first | apply Kd.R_alloc | apply Kd.R_drewN | apply Kd.R_drew)); exact HO648.out) hb); have n5_ := Aside0.mk (Kd.R_below (by (with_reducible repeat (first | apply Kd.R_alloc | apply Kd.R_drewN | apply Kd.R_drew)); exact HO652.out) hb); have n6_ := Aside0.mk (Kd.R_below (by (with_reducible repeat (first | apply Kd.R_alloc | apply Kd.R_drewN | apply Kd.R_drew)); exact HO655.out) hb); have n7_ := Aside0.mk (Kd.R_elder' (by (with_reducible repeat (first | apply Kd.R_alloc | apply Kd.R_drewN | apply Kd.R_drew)); exact HO659.out) (Kd.R_base ho47) hb); have n8_ := Aside0.mk (Kd.R_below (by (with_reducible repeat (first | apply Kd.R_alloc | apply Kd.R_drewN | apply Kd.R_drew)); exact HO662.out) hb); have n9_ := Aside0.mk (Kd.R_lower (Kd.R_new' (Kd.R_new' (Kd.R_new' (Kd.R_new' ho47 (Kd.R_lt (by (with_reducible repeat (first | apply Kd.R_alloc | apply Kd.R_drewN | apply Kd.R_drew)); exact HO636.out))) (Kd.R_lt (by (with_reducible repeat (first | apply Kd.R_alloc | apply Kd.R_drewN | apply Kd.R_drew)); exact HO643.out))) (Kd.R_lt (by (with_reducible repeat (first | apply Kd.R_alloc | apply Kd.R_drewN | apply Kd.R_drew)); exact HO645.out))) (Kd.R_lt (by (with_reducible repeat (first | apply Kd.R_alloc | apply Kd.R_drewN | apply Kd.R_drew)); exact HO659.out))) (below_size (by repeat (first | (with_reducible first | exact HB.out | apply below_alloc | apply pw_below_drewN | apply below_drew1) | exact HB.out)))); have n10_ := Aside0.mk (below_step (by repeat (first | (with_reducible first | exact HB.out | apply below_alloc | apply pw_below_drewN | apply below_drew1) | exact HB.out)) hb); clear HO636; clear HO639; clear HO643; clear HO645; clear HO648; clear HO652; clear HO655; clear HO659; clear HO662; clear HB; have HO636 := n0_; have HO639 := n1_; have HO643 := n2_; have HO645 := n3_; have HO648 := n4_; have HO652 := n5_; have HO655 := n6_; have HO659 := n7_; have HO662 := n8_; have HO687 := n9_; have HB := n10_; clear n0_ n1_ n2_ n3_ n4_ n5_ n6_ n7_ n8_ n9_ n10_; clear hb ho47; obtain ⟨Ao48, co48, eo48⟩ := Kd.R_slice HO659.out; subst eo48; obtain ⟨Ao49, co49, eo49⟩ := Kd.R_slice HO687.out; subst eo49) | (go_at_call 21; (with_reducible refine (accountingref19_Same.calls k _ _ t656 _ _ y685 true _ ?side1 ?side2 ?side3 ?side4 A16.out).mono ?_); (case side1 => repeat (first | exact (Kd.R_reads' HO659.out).2.2 | (with_reducible refine Kd.C_alloc ?_ _) | (with_reducible refine Kd.C_drewN ?_ _) | (with_reducible refine Kd.C_drew ?_))); (case side2 => exact (Kd.R_reads' HO659.out).2.1); (case side3 => repeat (first | exact (Kd.R_reads' HO687.out).2.2 | (with_reducible refine Kd.C_alloc ?_ _) | (with_reducible refine Kd.C_drewN ?_ _) | (with_reducible refine Kd.C_drew ?_))); (case side4 => exact (Kd.R_reads' HO687.out).2.1); rintro e w' ⟨rfl, ⟨nd, rfl⟩⟩))
      go_ret
      exact ⟨by first | rfl | (simp [errW_none, errW_some] <;> rfl) | (simp [*, errW_none, errW_some] <;> rfl), by repeat (first | (with_reducible first | exact HB.out | apply below_alloc | apply pw_below_drewN | apply below_drew1) | exact HB.out)⟩
     ·replace c17 := Bool.eq_false_iff.mpr c17
      subst c17
      have H1 : (some false) = some r := by rw [if_neg (show ¬ (false = true) by decide)] at H; exact H
      clear H
      have H := H1
      clear H1
      exact absurd ((Option.some.inj H).trans HRT.out) (by simp)
    ·rw [if_neg c12] at H
     have c12b0 : (t650 == 0) = false := beq_eq_false_iff_ne.mpr c12
     have c12b1 : (t650 != 0) = true := bne_iff_ne.mpr c12
     exact absurd ((Option.some.inj H).trans HRT.out) (by simp)
   ·replace c11 := Bool.eq_false_iff.mpr c11
    subst c11
    have H1 : (some false) = some r := by rw [if_neg (show ¬ (false = true) by decide)] at H; exact H
    clear H
    have H := H1
    clear H1
    exact absurd ((Option.some.inj H).trans HRT.out) (by simp)
  ·rw [if_neg c9] at H
   have c9b0 : ((t641.length : Int) == 2) = false := beq_eq_false_iff_ne.mpr c9
   have c9b1 : ((t641.length : Int) != 2) = true := bne_iff_ne.mpr c9
   exact absurd ((Option.some.inj H).trans HRT.out) (by simp)
 ·rw [if_neg c8] at H
  have c8b0 : ((t640.length : Int) == 2) = false := beq_eq_false_iff_ne.mpr c8
  have c8b1 : ((t640.length : Int) != 2) = true := bne_iff_ne.mpr c8
  exact absurd ((Option.some.inj H).trans HRT.out) (by simp)
theorem accountinglaw44_lives.true_at : accountinglaw44_lives.f 100 = some true := by decide +kernel
theorem accountinglaw44_lives.tells (k : Nat) (r : Bool) (h : accountinglaw44_lives.f k = some r) : r = true := by
 have up : ∀ m j, LeO (accountinglaw44_lives.f j) (accountinglaw44_lives.f (j + m)) := fun m => by
  induction m with
  | zero => exact fun j => LeO.refl _
  | succ m ih => exact fun j r h => accountinglaw44_lives.mono _ _ (ih j r h)
 have h1 := up 100 k r h
 have h2 := up k 100 true accountinglaw44_lives.true_at
 rw [Nat.add_comm] at h2
 exact Option.some.inj (h1.symm.trans h2)
theorem accountinglaw44_lives.calls (k : Nat)  (r : Bool) (w : World) (h : accountinglaw44_lives.f k  = some r) :
  Calls Try.prog 46 #[] w fun e w' => e = .returned (.bool r) ∧ Below w.heap.size w w' := accountinglaw44_lives.calls_true k r w h (accountinglaw44_lives.tells k r h)
end Go.Proofs.Ytmflggbpiadkjaa.P
