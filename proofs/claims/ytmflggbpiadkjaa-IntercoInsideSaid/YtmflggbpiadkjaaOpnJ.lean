/- Texts of mine, joined: Opn0, Opn. -/
import Derived.Test.YtmflggbpiadkjaaWWords
import Derived.Deep.Slices
import Derived.ChangeArms
import Derived.ChangeSame
import Derived.WideShapes
import Derived.Test.YtmflggbpiadkjaaPx0
/- What a value that is read as data is, kind by kind: numbers, strings, slices, structs. -/
namespace Go.Proofs.Ytmflggbpiadkjaa.Op
open Go.RowKit Go.Proofs.YtmflggbpiadkjaaW.PrintWords Go.ChangeShapes Go.WideShapes Go.Deep
def FitL {α : Type} (f : α → Prop) (xs : List α) : Prop := xs.length ≤ maxLen ∧ ∀ x ∈ xs, f x
/-- Whatever is read at type t is of the kind k, and fits. -/
def Opn (P : Program) (t : TypeId) {α : Type} (k : Kd α) (fit : α → Prop) : Prop :=
  ∀ {H : Type} {enc : TypeId × Value → H} {w : World} {fuel : Nat} {cs : List Value} {x : DataW H × List MemPlace}, DataW.trod enc P w 0 (fun _ => true) true fuel t cs = some x → ∃ y, k.K w y cs ∧ fit y
section
variable {P : Program}
theorem opn_int {t : TypeId} {k : IntKind} (ht : P.underlying t = some (.int k)) : Opn P t (Kd.int k) (fun n => (Lit.int k n).wf = true) := by
  intro H enc w fuel cs x h
  obtain ⟨n, rfl, _, hn⟩ := DataW.trod_int ht h
  exact ⟨n, rfl, hn⟩
theorem opn_bool {t : TypeId} (ht : P.underlying t = some .bool) : Opn P t Kd.bool (fun _ => True) := by
  intro H enc w fuel cs x h
  obtain ⟨b, rfl, _⟩ := DataW.trod_bool ht h
  exact ⟨b, rfl, trivial⟩
theorem opn_string {t : TypeId} (ht : P.underlying t = some .string) : Opn P t Kd.string (fun s => s.size ≤ maxLen) := by
  intro H enc w fuel cs x h
  obtain ⟨s, rfl, _, hs⟩ := DataW.trod_string ht h
  exact ⟨s, rfl, hs⟩
theorem opn_slice {t e : TypeId} {α : Type} {d : Kd α} {f : α → Prop} (ht : P.underlying t = some (.slice e)) (hC : P.cellsOf e = d.sz) (he : Opn P e d f) : Opn P t (Kd.slice e d) (FitL f) := by
  intro H enc w fuel cs x h
  rcases open_slice ht h with ⟨rfl, _⟩ | ⟨a, len, cap, m, n, D, Pl, rfl, hb, hl, hm, hmm, hx, hi⟩
  · exact ⟨[], ⟨none, 0, rfl, Nat.le_refl _, ⟨rfl, by simp, fun h => by simp at h⟩⟩, by simp, fun x hx => by simp at hx⟩
  · have hmc : m = cap := by rw [hmm]; simp
    have build : ∀ k, k ≤ len → ∃ ys : List α, ys.length = k ∧ (∀ y ∈ ys, f y) ∧ ∀ i y, ys[i]? = some y → ∃ c, c.length = d.sz ∧ d.K w y c ∧ ∀ j u, c[j]? = some u → w.cell? (a.add (i * d.sz + j)) = some u := by
      intro k
      induction k with
      | zero => exact fun _ => ⟨[], rfl, fun y hy => by simp at hy, fun i y hy => by simp at hy⟩
      | succ k ih =>
        intro hk
        obtain ⟨ys, hyl, hyf, hyc⟩ := ih (by omega)
        obtain ⟨cs', hc, ht'⟩ := hi k (by omega)
        obtain ⟨y, K, fy⟩ := he ht'
        rw [hC] at hc
        obtain ⟨_, hcl, hat⟩ := World.cells?_some hc
        refine ⟨ys ++ [y], by simp [hyl], fun z hz => ?_, fun i z hz => ?_⟩
        · rcases List.mem_append.1 hz with hz | hz
          · exact hyf z hz
          · rw [List.mem_singleton.1 hz]; exact fy
        · rcases Nat.lt_or_ge i ys.length with hlt | hge
          · rw [List.getElem?_append_left hlt] at hz
            exact hyc i z hz
          · have hil : i = ys.length := by
              have := (List.getElem?_eq_some_iff.1 hz).1
              simp at this; omega
            subst hil
            obtain rfl : y = z := by simpa using hz
            refine ⟨cs', hcl, K, fun j u hu => ?_⟩
            have hj : j < d.sz := by have := (List.getElem?_eq_some_iff.1 hu).1; omega
            rw [← Go.Deep.add_add, hyl, hat j hj, hu]
    obtain ⟨ys, hyl, hyf, hyc⟩ := build len (Nat.le_refl _)
    have hml : maxLen ≤ 9223372036854775807 := by unfold maxLen; omega
    exact ⟨ys, ⟨some a, cap, by rw [hyl], by omega, by rw [hyl]; exact ⟨hyl, by omega, fun _ => ⟨a, rfl, hyc⟩⟩⟩, by omega, hyf⟩
theorem Opn.last {α : Type} {k : Kd α} {w : World} {y : α} {cs : List Value} {o s : Nat} (h : k.K w y ((cs.drop o).take s)) (hl : cs.length ≤ o + s) : k.K w y (cs.drop o) := by
  rwa [List.take_of_length_le (by simp; omega)] at h
theorem Opn.cons {α β : Type} {a : Kd α} {b : Kd β} {w : World} {x : α} {y : β} {cs : List Value} {o s : Nat} (h : a.K w x ((cs.drop o).take s)) (k : b.K w y (cs.drop (o + s))) : (Kd.pair a b).K w (x, y) (cs.drop o) :=
  ⟨_, _, (by rw [← List.drop_drop]; exact (List.take_append_drop s (cs.drop o)).symm), h, k⟩
theorem Opn.zero {α : Type} {k : Kd α} {w : World} {y : α} {cs : List Value} (h : k.K w y (cs.drop 0)) : k.K w y cs := h
theorem opened_slice {H : Type} {enc : TypeId × Value → H} {w : World} {t e : TypeId} {α : Type} {d : Kd α} {f : α → Prop} {A : Option Addr} {len cap : Nat} {dd : DataW H} {ps : List MemPlace} (ho : Opn P t (Kd.slice e d) (FitL f))
    (h : DataW.Trod enc P w 0 (fun _ => true) true t (.slice A len cap) dd ps) : ∃ l : List α, l.length = len ∧ l.length ≤ cap ∧ d.C w A l.length l ∧ FitL f l := by
  obtain ⟨fuel, hf⟩ := h
  obtain ⟨y, ⟨A', c, e1, hl, hC⟩, fy⟩ := ho hf
  have e2 : Value.slice A len cap = Value.slice A' y.length c := by simpa [Value.cells] using e1
  injection e2 with e3 e4 e5
  subst e3 e4 e5
  exact ⟨y, rfl, hl, hC, fy⟩
theorem opened_struct {H : Type} {enc : TypeId × Value → H} {w : World} {t : TypeId} {α : Type} {d : Kd α} {f : α → Prop} {cs : Array Value} {dd : DataW H} {ps : List MemPlace} (ho : Opn P t d f)
    (h : DataW.Trod enc P w 0 (fun _ => true) true t (.agg cs) dd ps) : ∃ y : α, d.K w y cs.toList ∧ f y := by
  obtain ⟨fuel, hf⟩ := h
  exact ho hf
end
end Go.Proofs.Ytmflggbpiadkjaa.Op

/- What a law's arguments read as: the openers of this seat's structs. -/
namespace Go.Proofs.Ytmflggbpiadkjaa.P
open Go.RowKit Go.Proofs.YtmflggbpiadkjaaW.PrintWords Go.Proofs.YtmflggbpiadkjaaW.PrintLast
open Go.Proofs.Ytmflggbpiadkjaa.Op
set_option linter.unusedVariables false
def fit32 (x : S32) : Prop := (fun s => s.size ≤ maxLen) x.f0 ∧ (fun s => s.size ≤ maxLen) x.f1 ∧ (fun s => s.size ≤ maxLen) x.f2 ∧ (fun s => s.size ≤ maxLen) x.f3 ∧ (fun s => s.size ≤ maxLen) x.f4
theorem opn32 : Opn Try.prog 32 k32 fit32 := by
  intro H enc w fuel cs x h
  obtain ⟨xs, n, _, _, hlen, hxl, hg⟩ := DataW.trod_struct Try.underlying32 h
  have hlen : cs.length = 5 := hlen.trans (by kernel_rfl)
  have g0 := (hg 0 _ rfl).trans (List.getElem?_eq_getElem (show 0 < xs.length by rw [hxl]; decide))
  change DataW.trod _ _ _ _ _ _ _ 9 (List.take (Try.prog.cellsOf 9) (List.drop 0 cs)) = _ at g0
  rw [show Try.prog.cellsOf 9 = 1 by kernel_rfl] at g0
  obtain ⟨y0, K0, f0⟩ := (opn_string Try.underlying9) g0
  have g1 := (hg 1 _ rfl).trans (List.getElem?_eq_getElem (show 1 < xs.length by rw [hxl]; decide))
  change DataW.trod _ _ _ _ _ _ _ 9 (List.take (Try.prog.cellsOf 9) (List.drop 1 cs)) = _ at g1
  rw [show Try.prog.cellsOf 9 = 1 by kernel_rfl] at g1
  obtain ⟨y1, K1, f1⟩ := (opn_string Try.underlying9) g1
  have g2 := (hg 2 _ rfl).trans (List.getElem?_eq_getElem (show 2 < xs.length by rw [hxl]; decide))
  change DataW.trod _ _ _ _ _ _ _ 9 (List.take (Try.prog.cellsOf 9) (List.drop 2 cs)) = _ at g2
  rw [show Try.prog.cellsOf 9 = 1 by kernel_rfl] at g2
  obtain ⟨y2, K2, f2⟩ := (opn_string Try.underlying9) g2
  have g3 := (hg 3 _ rfl).trans (List.getElem?_eq_getElem (show 3 < xs.length by rw [hxl]; decide))
  change DataW.trod _ _ _ _ _ _ _ 9 (List.take (Try.prog.cellsOf 9) (List.drop 3 cs)) = _ at g3
  rw [show Try.prog.cellsOf 9 = 1 by kernel_rfl] at g3
  obtain ⟨y3, K3, f3⟩ := (opn_string Try.underlying9) g3
  have g4 := (hg 4 _ rfl).trans (List.getElem?_eq_getElem (show 4 < xs.length by rw [hxl]; decide))
  change DataW.trod _ _ _ _ _ _ _ 9 (List.take (Try.prog.cellsOf 9) (List.drop 4 cs)) = _ at g4
  rw [show Try.prog.cellsOf 9 = 1 by kernel_rfl] at g4
  obtain ⟨y4, K4, f4⟩ := (opn_string Try.underlying9) g4
  exact ⟨⟨y0, y1, y2, y3, y4⟩, (show (Kd.pair Kd.string (Kd.pair Kd.string (Kd.pair Kd.string (Kd.pair Kd.string Kd.string)))).K w (y0, y1, y2, y3, y4) cs from Opn.zero (Opn.cons K0 (Opn.cons K1 (Opn.cons K2 (Opn.cons K3 (Opn.last K4 (by omega))))))), ⟨f0, f1, f2, f3, f4⟩⟩
def fit34 (x : S34) : Prop := fit32 x.f0 ∧ (fun n => (Lit.int .i64 n).wf = true) x.f1 ∧ (fun n => (Lit.int .i64 n).wf = true) x.f2
theorem opn34 : Opn Try.prog 34 k34 fit34 := by
  intro H enc w fuel cs x h
  obtain ⟨xs, n, _, _, hlen, hxl, hg⟩ := DataW.trod_struct Try.underlying34 h
  have hlen : cs.length = 7 := hlen.trans (by kernel_rfl)
  have g0 := (hg 0 _ rfl).trans (List.getElem?_eq_getElem (show 0 < xs.length by rw [hxl]; decide))
  change DataW.trod _ _ _ _ _ _ _ 32 (List.take (Try.prog.cellsOf 32) (List.drop 0 cs)) = _ at g0
  rw [show Try.prog.cellsOf 32 = 5 by kernel_rfl] at g0
  obtain ⟨y0, K0, f0⟩ := opn32 g0
  have g1 := (hg 1 _ rfl).trans (List.getElem?_eq_getElem (show 1 < xs.length by rw [hxl]; decide))
  change DataW.trod _ _ _ _ _ _ _ 3 (List.take (Try.prog.cellsOf 3) (List.drop 5 cs)) = _ at g1
  rw [show Try.prog.cellsOf 3 = 1 by kernel_rfl] at g1
  obtain ⟨y1, K1, f1⟩ := (opn_int Try.underlying3) g1
  have g2 := (hg 2 _ rfl).trans (List.getElem?_eq_getElem (show 2 < xs.length by rw [hxl]; decide))
  change DataW.trod _ _ _ _ _ _ _ 3 (List.take (Try.prog.cellsOf 3) (List.drop 6 cs)) = _ at g2
  rw [show Try.prog.cellsOf 3 = 1 by kernel_rfl] at g2
  obtain ⟨y2, K2, f2⟩ := (opn_int Try.underlying3) g2
  exact ⟨⟨y0, y1, y2⟩, (show (Kd.pair k32 (Kd.pair (Kd.int .i64) (Kd.int .i64))).K w (y0, y1, y2) cs from Opn.zero (Opn.cons K0 (Opn.cons K1 (Opn.last K2 (by omega))))), ⟨f0, f1, f2⟩⟩
end Go.Proofs.Ytmflggbpiadkjaa.P
