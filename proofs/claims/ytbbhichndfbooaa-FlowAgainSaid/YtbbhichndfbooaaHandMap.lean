/- The map of approvers: who is among them. -/
import Derived.Test.YtbbhichndfbooaaHandJ
import Derived.Carry
namespace Go.Proofs.Ytbbhichndfbooaa.P
open Go.RowKit Go.Proofs.YtbbhichndfbooaaW.PrintWords Go.Proofs.YtbbhichndfbooaaW.PrintLast Go.Proofs.YtbbhichndfbooaaW.PrintMore Go.Maps Go.ChangeShapes Go.WideShapes Go.WideMaps
set_option linter.unusedVariables false
set_option linter.unusedSimpArgs false
/-- An element, as it lies. -/
def vR (v : Value) : Option (DataW Value × List MemPlace) := some (.held v, [])
theorem zero4 (w : World) : (zeroValue 4).run Try.prog w = .ok (.bool false) w := by kernel_rfl
theorem strKeyed : Keyed Try.prog 9 := string_keyed Try.underlying9
theorem keyS {s : ByteArray} (h : s.size ≤ maxLen) : keyOf Try.prog 9 (.string s) = some (.string s.data.toList) := keyOf_string_mk Try.underlying9 h
theorem lit_ne {a b : ByteArray} (h : a ≠ b) : Lit.string a.data.toList ≠ Lit.string b.data.toList := by
  intro h'
  simp only [Lit.string.injEq] at h'
  exact h (ByteArray.ext (Array.ext' h'))
/-- Block b is a map, and an element is true where the key is among l. -/
def MapB (w : World) (b n : Nat) (l : List ByteArray) : Prop := ∃ D : DataW Value, w.ownsMap Try.prog 9 vR b n D ∧ ∀ s : ByteArray, s.size ≤ maxLen → D.atKey (.string s.data.toList) (.held (.bool false)) = .held (.bool (hasB l s))
theorem MapB.made (w : World) : MapB (w.alloc (.map #[] 0)) w.heap.size 0 [] := ⟨_, World.ownsMap_made w _ _ _, fun _ _ => rfl⟩
theorem MapB.look {w : World} {b n : Nat} {l : List ByteArray} (h : MapB w b n l) {s : ByteArray} (hs : s.size ≤ maxLen) : (Instr.lookup 64 (.map (some b)) (.string s) false).run Try.prog w = .ok (.bool (hasB l s)) w := by
  obtain ⟨D, ho, hD⟩ := h
  obtain ⟨v, ps, hrun, hv⟩ := ho.lookup strKeyed Try.underlying64 (zero4 w) (zd := .held (.bool false)) (zp := []) rfl (keyS hs)
  rw [hrun]
  simp only [vR, Option.some.injEq, Prod.mk.injEq] at hv
  rw [hD s hs] at hv
  simp only [DataW.held.injEq] at hv
  rw [hv.1]
theorem MapB.store {w : World} {b n : Nat} {l : List ByteArray} (h : MapB w b n l) (hn : n < maxLen) {s : ByteArray} (hs : s.size ≤ maxLen) :
    ∃ w', (Instr.mapUpdate 64 (.map (some b)) (.string s) (.bool true)).run Try.prog w = .ok () w' ∧ MapB w' b (n + 1) (l ++ [s]) ∧ w.grownBy w' (some b) := by
  obtain ⟨D, ho, hD⟩ := h
  obtain ⟨w', hrun, ho', hg⟩ := ho.update strKeyed Try.underlying64 hn (val := .bool true) (d := .held (.bool true)) (ps := []) (keyS hs) rfl
  refine ⟨w', hrun, ⟨_, ho', fun t ht => ?_⟩, hg⟩
  by_cases e : t = s
  · subst e
    rw [atKey_put_same ho.isMap (strKeyed.key (keyS hs)), show hasB (l ++ [t]) t = true by simp [hasB]]
  · have hne : (s.toList == t.toList) = false := beq_eq_false_iff_ne.mpr (fun h => e (bytes_ext h.symm))
    have hh : hasB (l ++ [s]) t = hasB l t := by
      unfold hasB
      rw [List.any_append, List.any_cons, List.any_nil, hne, Bool.or_false, Bool.or_false]
    rw [atKey_put_other (lit_ne e), hD t ht, hh]
theorem MapB.move {w w' : World} {b n : Nat} {l : List ByteArray} (h : MapB w b n l) (hm : w'.heap[b]? = w.heap[b]?) : MapB w' b n l := by
  obtain ⟨D, ⟨es, clock, h1, h2⟩, hD⟩ := h
  exact ⟨D, ⟨es, clock, hm.trans h1, h2⟩, hD⟩
theorem MapB.who {w : World} {b n : Nat} {l : List ByteArray} (h : MapB w b n l) : Who w b l := by
  obtain ⟨D, ⟨es, clock, h1, h2⟩, hD⟩ := h
  exact ⟨es, clock, h1, fun W s hW hs => MapB.look ⟨D, ⟨es, clock, hW, h2⟩, hD⟩ hs⟩
theorem MapB.lt {w : World} {b n : Nat} {l : List ByteArray} (h : MapB w b n l) : b < w.heap.size := h.who.lt
end Go.Proofs.Ytbbhichndfbooaa.P
