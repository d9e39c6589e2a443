/- A workflow in memory: what flow's methods keep there, and what they are proved to compute. -/
import Derived.Test.YtbbhichndfbooaaPx0
import Derived.Test.YtbbhichndfbooaaHandCode
import Derived.Maps.OwnRows
import Derived.Maps.OwnSet
import Derived.Maps.Views
import Derived.Deep.RegionLaw
import Derived.Deep.AppendLies
import Derived.Deep.RegionHeld3
import Derived.RegionTactic
import Derived.Laws.Pointers
namespace Go.Proofs.Ytbbhichndfbooaa.P
open Go.RowKit Go.Proofs.YtbbhichndfbooaaW.PrintWords Go.Proofs.YtbbhichndfbooaaW.PrintLast Go.Proofs.YtbbhichndfbooaaW.PrintMore Go.Maps Go.ChangeShapes Go.WideShapes Go.WideMaps
set_option linter.unusedVariables false
set_option linter.unusedSimpArgs false

/-! ### The world but for some blocks -/
/-- Nothing that lay has turned, but for the blocks in X. -/
structure But (X : Nat → Prop) (w w' : World) : Prop where
  os : w'.os = w.os
  tape : w'.tape = w.tape
  output : w'.output = w.output
  size : w.heap.size ≤ w'.heap.size
  block : ∀ k, k < w.heap.size → ¬ X k → w'.heap[k]? = w.heap[k]?
theorem But.refl (X : Nat → Prop) (w : World) : But X w w := ⟨rfl, rfl, rfl, Nat.le_refl _, fun _ _ _ => rfl⟩
theorem But.trans {X : Nat → Prop} {a b c : World} (h : But X a b) (k : But X b c) : But X a c :=
  ⟨k.os.trans h.os, k.tape.trans h.tape, k.output.trans h.output, Nat.le_trans h.size k.size, fun i hi hx => (k.block i (Nat.lt_of_lt_of_le hi h.size) hx).trans (h.block i hi hx)⟩
theorem But.mono {X Y : Nat → Prop} {w w' : World} (h : But X w w') (hx : ∀ k, k < w.heap.size → X k → Y k) : But Y w w' := ⟨h.os, h.tape, h.output, h.size, fun k hk hy => h.block k hk (fun e => hy (hx k hk e))⟩
theorem But.of_below {w w' : World} (h : Below w.heap.size w w') (X : Nat → Prop) : But X w w' := ⟨h.os, h.tape, h.output, h.size, fun k hk _ => h.block k hk⟩
theorem But.of_grown {w w' : World} {row : Option Nat} (h : w.grownBy w' row) {X : Nat → Prop} (hx : ∀ k, row = some k → X k) : But X w w' := ⟨h.os, h.tape, h.output, h.size, fun k hk hn => h.block k hk (fun e => hn (hx k e.symm))⟩
theorem But.alloc {X : Nat → Prop} {a w : World} (h : But X a w) (o : Obj) : But X a (w.alloc o) := h.trans (But.of_below ((Below.refl _ w).alloc (Nat.le_refl _) o) X)
theorem But.drewN {X : Nat → Prop} {a w : World} (h : But X a w) (n : Nat) : But X a (w.drewN n) := h.trans (But.of_below (pw_below_drewN (Below.refl _ w) n) X)
theorem But.setCell {X : Nat → Prop} {a w : World} (h : But X a w) {p : Addr} (hp : X p.block) (u : Value) : But X a (w.setCell p u) :=
  h.trans ⟨rfl, rfl, rfl, by simp [World.setCell], fun k hk hn => Below.heap_setCell _ _ _ _ (fun e => hn (by rw [e]; exact hp))⟩
theorem But.below {X : Nat → Prop} {w0 w w' : World} {n : Nat} (h0 : Below n w0 w) (h : But X w w') (hn : n ≤ w.heap.size) (hx : ∀ k, X k → n ≤ k) : Below n w0 w' :=
  h0.trans ⟨h.os, h.tape, h.output, h.size, fun k hk => h.block k (by omega) (fun e => by have := hx k e; omega)⟩
/-- A block that lay is what it was. -/
theorem But.obj {X : Nat → Prop} {w w' : World} (h : But X w w') {k : Nat} {o : Obj} (ho : w.heap[k]? = some o) (hx : ¬ X k) : w'.heap[k]? = some o := (h.block k (Array.getElem?_eq_some_iff.1 ho).1 hx).trans ho
theorem below_of_but {w w' : World} (h : But (fun _ => False) w w') : Below w.heap.size w w' := ⟨h.os, h.tape, h.output, h.size, fun k hk => h.block k hk (fun e => e)⟩

theorem with_world {P : World → Prop} (W : World) (h : ∀ w2, w2 = W → P w2) : P W := h W rfl
/-! ### The workflow -/
/-- A string is among strings. -/
def hasB (l : List ByteArray) (s : ByteArray) : Bool := l.any (fun a => a.toList == s.toList)
theorem bytes_ext {a b : ByteArray} (h : a.toList = b.toList) : a = b := ByteArray.ext (Array.ext' (by rw [← ByteArray.toList_eq a, ← ByteArray.toList_eq b]; exact h))
structure DocS where
  au : ByteArray
  vo : Int
  st : Int
  ap : List ByteArray
structure FlowS where
  steps : List S60
  appr : List ByteArray
  docs : List DocS
  acts : List S55
/-- A pointer to the start of a block. -/
def kP : Kd Nat where
  sz := 1
  E := []
  K _ b cs := cs = [.pointer (some ⟨b, 0, none⟩)]
  M _ _ _ b cs := cs = [.pointer (some ⟨b, 0, none⟩)]
  K_len := by rintro _ _ _ rfl; rfl
  K_one := by rintro _ _ _ rfl u hu; cases hu with | head => rfl | tail _ h => cases h
  K_below _ h := h
  K_of_M h := h
  M_mono _ h := h
  M_bound h := h
  M_move _ h := h
  M_lower _ h := h
/-- Block m is a map whose look-up tells who is among l. -/
def Who (w : World) (m : Nat) (l : List ByteArray) : Prop :=
  ∃ es clock, w.heap[m]? = some (.map es clock) ∧ ∀ (W : World) (s : ByteArray), W.heap[m]? = some (.map es clock) → s.size ≤ maxLen → (Instr.lookup 64 (.map (some m)) (.string s) false).run Try.prog W = .ok (.bool (hasB l s)) W
theorem Who.move {w w' : World} {m : Nat} {l : List ByteArray} (h : Who w m l) (hm : w'.heap[m]? = w.heap[m]?) : Who w' m l := by
  obtain ⟨es, cl, h1, h2⟩ := h
  exact ⟨es, cl, hm.trans h1, h2⟩
theorem Who.lt {w : World} {m : Nat} {l : List ByteArray} (h : Who w m l) : m < w.heap.size := by obtain ⟨es, cl, h1, _⟩ := h; exact (Array.getElem?_eq_some_iff.1 h1).1
/-- Block b is the document D; its approvals are the slice v. -/
structure DocAt (w : World) (F : Nat → Prop) (b : Nat) (D : DocS) (v : Value) : Prop where
  blk : w.heap[b]? = some (.cells #[.string D.au, .int .i64 D.vo, .int .i64 D.st, v] 75 (0, 0))
  own : F b
  row : Kd.string.R 9 w 0 F v D.ap
theorem DocAt.move {w w' : World} {F G : Nat → Prop} {b : Nat} {D : DocS} {v : Value} (h : DocAt w F b D v) (hFG : ∀ k, F k → G k) (hb : w'.heap[b]? = w.heap[b]?) (hm : ∀ k, v.ownBlock = some k → w'.heap[k]? = w.heap[k]?) : DocAt w' G b D v := by
  refine ⟨hb.trans h.blk, hFG _ h.own, ?_⟩
  have h1 := Kd.R_mono (Kd.R_tight rfl h.row) (ok' := fun k => v.ownBlock = some k) (fun k hk => hk.symm)
  exact Kd.R_mono (Kd.R_step h1 (fun k hk _ => hm k hk)) (fun k hk => hFG k (h.row.1 k hk))
/-- The workflow's parts: the steps, the map, the documents, the acts; the documents' blocks and their slices. -/
structure Parts where
  vs : Value
  m : Nat
  vd : Value
  va : Value
  ds : List Nat
  vp : List Value
structure FlwP (w : World) (F : Nat → Prop) (p : Nat) (S : FlowS) (L : Parts) : Prop where
  blk : w.heap[p]? = some (.cells #[L.vs, .map (some L.m), L.vd, L.va] 67 (0, 0))
  own : F p
  steps : k60.R 60 w 0 F L.vs S.steps
  who : Who w L.m S.appr
  ownm : F L.m
  rowd : kP.R 72 w 0 F L.vd L.ds
  acts : k55.R 55 w 0 F L.va S.acts
  lend : L.ds.length = S.docs.length
  lenp : L.vp.length = S.docs.length
  docs : ∀ (j : Nat) (b : Nat) (D : DocS) (v : Value), L.ds[j]? = some b → S.docs[j]? = some D → L.vp[j]? = some v → DocAt w F b D v
  apd : L.ds.Pairwise (· ≠ ·)
  app : L.vp.Pairwise (fun u v => ∀ k, u.ownBlock = some k → v.ownBlock ≠ some k)
  lt : ∀ k, F k → k < w.heap.size
def Flw (w : World) (F : Nat → Prop) (p : Nat) (S : FlowS) : Prop := ∃ L, FlwP w F p S L
theorem FlwP.below {w w' : World} {F : Nat → Prop} {p : Nat} {S : FlowS} {L : Parts} (h : FlwP w F p S L) (hb : ∀ k, F k → w'.heap[k]? = w.heap[k]?) : FlwP w' F p S L := by
  refine ⟨(hb _ h.own).trans h.blk, h.own, Kd.R_step h.steps (fun k hk _ => hb k hk), h.who.move (hb _ h.ownm), h.ownm, Kd.R_step h.rowd (fun k hk _ => hb k hk), Kd.R_step h.acts (fun k hk _ => hb k hk), h.lend, h.lenp, fun j b D v h1 h2 h3 => ?_, h.apd, h.app, fun k hk => ?_⟩
  · have hd := h.docs j b D v h1 h2 h3
    exact hd.move (fun _ hk => hk) (hb _ hd.own) (fun k hk => hb k (hd.row.1 k hk))
  · have := h.lt k hk
    have h2 := hb k hk
    rw [Array.getElem?_eq_getElem this] at h2
    exact (Array.getElem?_eq_some_iff.1 h2).1
theorem Flw.keep {w w' : World} {F : Nat → Prop} {p : Nat} {S : FlowS} (h : Flw w F p S) (hb : ∀ k, F k → w'.heap[k]? = w.heap[k]?) : Flw w' F p S := by
  obtain ⟨L, h⟩ := h
  exact ⟨L, h.below hb⟩
theorem Flw.lt {w : World} {F : Nat → Prop} {p : Nat} {S : FlowS} (h : Flw w F p S) : ∀ k, F k → k < w.heap.size := by
  obtain ⟨L, h⟩ := h
  exact h.lt
theorem Flw.below {w w' : World} {F : Nat → Prop} {p : Nat} {S : FlowS} (h : Flw w F p S) (hb : Below w.heap.size w w') : Flw w' F p S := h.keep (fun k hk => hb.block k (h.lt k hk))
theorem Flw.but {X : Nat → Prop} {w w' : World} {F : Nat → Prop} {p : Nat} {S : FlowS} (h : Flw w F p S) (hb : But X w w') (hX : ∀ k, F k → ¬ X k) : Flw w' F p S := h.keep (fun k hk => hb.block k (h.lt k hk) (hX k hk))
/-- What a call may do to what is owned. -/
structure Stp (F F' : Nat → Prop) (w w' : World) : Prop where
  but : But F w w'
  grow : ∀ k, F' k → F k ∨ w.heap.size ≤ k
theorem Stp.refl (F : Nat → Prop) (w : World) : Stp F F w w := ⟨But.refl _ _, fun _ h => .inl h⟩
theorem Stp.trans {F G H : Nat → Prop} {a b c : World} (h : Stp F G a b) (k : Stp G H b c) : Stp F H a c :=
  ⟨⟨k.but.os.trans h.but.os, k.but.tape.trans h.but.tape, k.but.output.trans h.but.output, Nat.le_trans h.but.size k.but.size, fun i hi hx => (k.but.block i (Nat.lt_of_lt_of_le hi h.but.size) (fun hg => (h.grow i hg).elim hx (fun hl => by omega))).trans (h.but.block i hi hx)⟩,
    fun i hi => (k.grow i hi).elim (fun hg => h.grow i hg) (fun hl => .inr (Nat.le_trans h.but.size hl))⟩
/-! ### What lies apart, by its types -/
def Typed (w : World) (k t : Nat) : Prop := ∃ cs, w.heap[k]? = some (.cells cs t (0, 0))
theorem typed_ne {w : World} {k k' t t' : Nat} (h : Typed w k t) (h' : Typed w k' t') (ht : t ≠ t') : k ≠ k' := by
  obtain ⟨cs, h⟩ := h
  obtain ⟨cs', h'⟩ := h'
  exact blk_ne h h' ht
theorem typed_map {w : World} {k m t : Nat} {l : List ByteArray} (h : Typed w k t) (hm : Who w m l) : k ≠ m := by
  rintro rfl
  obtain ⟨cs, h⟩ := h
  obtain ⟨es, cl, h1, _⟩ := hm
  rw [h1] at h
  cases h
section
variable {w w' : World} {F G X : Nat → Prop} {p : Nat} {S : FlowS} {L : Parts}
theorem FlwP.tp (h : FlwP w F p S L) : Typed w p 67 := ⟨_, h.blk⟩
theorem FlwP.ts (h : FlwP w F p S L) {k : Nat} (hk : L.vs.ownBlock = some k) : Typed w k 60 := Kd.R_typed h.steps k hk
theorem FlwP.td (h : FlwP w F p S L) {k : Nat} (hk : L.vd.ownBlock = some k) : Typed w k 72 := Kd.R_typed h.rowd k hk
theorem FlwP.ta (h : FlwP w F p S L) {k : Nat} (hk : L.va.ownBlock = some k) : Typed w k 55 := Kd.R_typed h.acts k hk
theorem DocAt.tb {b : Nat} {D : DocS} {v : Value} (h : DocAt w F b D v) : Typed w b 75 := ⟨_, h.blk⟩
theorem DocAt.tv {b : Nat} {D : DocS} {v : Value} (h : DocAt w F b D v) {k : Nat} (hk : v.ownBlock = some k) : Typed w k 9 := Kd.R_typed h.row k hk
/-- A row of plain elements, carried over. -/
theorem row_over {α : Type} {d : Kd α} {e : Nat} {v : Value} {xs : List α} (hE : d.E = []) (h : d.R e w 0 F v xs) (hFG : ∀ k, F k → G k) (hm : ∀ k, v.ownBlock = some k → w'.heap[k]? = w.heap[k]?) : d.R e w' 0 G v xs := by
  have h1 := Kd.R_mono (Kd.R_tight hE h) (ok' := fun k => v.ownBlock = some k) (fun k hk => hk.symm)
  exact Kd.R_mono (Kd.R_step h1 (fun k hk _ => hm k hk)) (fun k hk => hFG k (h.1 k hk))
/-- What stays when the workflow's own block and the acts turn. -/
theorem FlwP.turned_acts (h : FlwP w F p S L) {va : Value} {al : List S55} (hFG : ∀ k, F k → G k) (hm : ∀ k, F k → k ≠ p → L.va.ownBlock ≠ some k → w'.heap[k]? = w.heap[k]?)
    (hb : w'.heap[p]? = some (.cells #[L.vs, .map (some L.m), L.vd, va] 67 (0, 0))) (ha : k55.R 55 w' 0 G va al) (hlt : ∀ k, G k → k < w'.heap.size) : FlwP w' G p { S with acts := al } { L with va := va } := by
  refine ⟨hb, hFG _ h.own, ?_, ?_, hFG _ h.ownm, ?_, ha, h.lend, h.lenp, ?_, h.apd, h.app, hlt⟩
  · exact row_over rfl h.steps hFG (fun k hk => hm k (h.steps.1 k hk) (typed_ne (h.ts hk) h.tp (by decide)) (fun e => typed_ne (h.ts hk) (h.ta e) (by decide) rfl))
  · exact h.who.move (hm _ h.ownm (fun e => typed_map h.tp h.who e.symm) (fun e => typed_map (h.ta e) h.who rfl))
  · exact row_over rfl h.rowd hFG (fun k hk => hm k (h.rowd.1 k hk) (typed_ne (h.td hk) h.tp (by decide)) (fun e => typed_ne (h.td hk) (h.ta e) (by decide) rfl))
  · intro j b D v h1 h2 h3
    have hd := h.docs j b D v h1 h2 h3
    exact hd.move hFG (hm _ hd.own (typed_ne hd.tb h.tp (by decide)) (fun e => typed_ne hd.tb (h.ta e) (by decide) rfl)) (fun k hk => hm k (hd.row.1 k hk) (typed_ne (hd.tv hk) h.tp (by decide)) (fun e => typed_ne (hd.tv hk) (h.ta e) (by decide) rfl))
theorem get_snoc {α : Type} {l : List α} {x y : α} {j : Nat} (h : (l ++ [x])[j]? = some y) : l[j]? = some y ∨ (j = l.length ∧ y = x) := by
  rcases Nat.lt_trichotomy j l.length with hj | hj | hj
  · rw [List.getElem?_append_left hj] at h
    exact .inl h
  · subst hj
    rw [List.getElem?_append_right (Nat.le_refl _), Nat.sub_self] at h
    exact .inr ⟨rfl, (Option.some.inj h).symm⟩
  · rw [List.getElem?_eq_none (by rw [List.length_append, List.length_singleton]; omega)] at h
    cases h
theorem get_lt {α : Type} {l : List α} {y : α} {j : Nat} (h : l[j]? = some y) : j < l.length := (List.getElem?_eq_some_iff.1 h).1
theorem FlwP.ds_own (h : FlwP w F p S L) {x : Nat} (hx : x ∈ L.ds) : F x := by
  obtain ⟨j, hj, rfl⟩ := List.mem_iff_getElem.1 hx
  have hj2 : j < S.docs.length := by rw [← h.lend]; exact hj
  have hj3 : j < L.vp.length := by rw [h.lenp]; exact hj2
  exact (h.docs j _ _ _ (List.getElem?_eq_getElem hj) (List.getElem?_eq_getElem hj2) (List.getElem?_eq_getElem hj3)).own
/-- What stays when the workflow's own block and the list of documents turn: a document more. -/
theorem FlwP.turned_docs (h : FlwP w F p S L) {vd v : Value} {b : Nat} {D : DocS} (hFG : ∀ k, F k → G k) (hm : ∀ k, F k → k ≠ p → L.vd.ownBlock ≠ some k → w'.heap[k]? = w.heap[k]?)
    (hb : w'.heap[p]? = some (.cells #[L.vs, .map (some L.m), vd, L.va] 67 (0, 0))) (hd : kP.R 72 w' 0 G vd (L.ds ++ [b])) (hD : DocAt w' G b D v) (hbn : ∀ x ∈ L.ds, x ≠ b) (hvn : ∀ u ∈ L.vp, ∀ k, u.ownBlock = some k → v.ownBlock ≠ some k) (hlt : ∀ k, G k → k < w'.heap.size) :
    FlwP w' G p { S with docs := S.docs ++ [D] } { L with vd := vd, ds := L.ds ++ [b], vp := L.vp ++ [v] } := by
  refine ⟨hb, hFG _ h.own, ?_, ?_, hFG _ h.ownm, hd, ?_, ?_, ?_, ?_, ?_, ?_, hlt⟩
  · exact row_over rfl h.steps hFG (fun k hk => hm k (h.steps.1 k hk) (typed_ne (h.ts hk) h.tp (by decide)) (fun e => typed_ne (h.ts hk) (h.td e) (by decide) rfl))
  · exact h.who.move (hm _ h.ownm (fun e => typed_map h.tp h.who e.symm) (fun e => typed_map (h.td e) h.who rfl))
  · exact row_over rfl h.acts hFG (fun k hk => hm k (h.acts.1 k hk) (typed_ne (h.ta hk) h.tp (by decide)) (fun e => typed_ne (h.ta hk) (h.td e) (by decide) rfl))
  · show (L.ds ++ [b]).length = (S.docs ++ [D]).length
    simp [h.lend]
  · show (L.vp ++ [v]).length = (S.docs ++ [D]).length
    simp [h.lenp]
  · intro j x E u h1 h2 h3
    have h1 : (L.ds ++ [b])[j]? = some x := h1
    have h2 : (S.docs ++ [D])[j]? = some E := h2
    have h3 : (L.vp ++ [v])[j]? = some u := h3
    rcases get_snoc h1 with a1 | ⟨a1, rfl⟩
    · have hj := get_lt a1
      rw [h.lend] at hj
      rcases get_snoc h2 with a2 | ⟨a2, _⟩
      · rcases get_snoc h3 with a3 | ⟨a3, _⟩
        · have hd := h.docs j x E u a1 a2 a3
          exact hd.move hFG (hm _ hd.own (typed_ne hd.tb h.tp (by decide)) (fun e => typed_ne hd.tb (h.td e) (by decide) rfl)) (fun k hk => hm k (hd.row.1 k hk) (typed_ne (hd.tv hk) h.tp (by decide)) (fun e => typed_ne (hd.tv hk) (h.td e) (by decide) rfl))
        · rw [h.lenp] at a3; omega
      · omega
    · rw [h.lend] at a1
      rcases get_snoc h2 with a2 | ⟨_, rfl⟩
      · have := get_lt a2; omega
      · rcases get_snoc h3 with a3 | ⟨_, rfl⟩
        · have := get_lt a3; rw [h.lenp] at this; omega
        · exact hD
  · show (L.ds ++ [b]).Pairwise (· ≠ ·)
    rw [List.pairwise_append]
    exact ⟨h.apd, List.pairwise_singleton _ _, fun x hx y hy => by rw [List.mem_singleton] at hy; subst hy; exact hbn x hx⟩
  · show (L.vp ++ [v]).Pairwise _
    rw [List.pairwise_append]
    exact ⟨h.app, List.pairwise_singleton _ _, fun x hx y hy => by rw [List.mem_singleton] at hy; subst hy; exact hvn x hx⟩
theorem get_set {α : Type} {l : List α} {j i : Nat} {x y : α} (h : (l.set j x)[i]? = some y) : (i = j ∧ y = x) ∨ (i ≠ j ∧ l[i]? = some y) := by
  rw [List.getElem?_set] at h
  by_cases e : j = i
  · rw [if_pos e] at h
    split at h
    · exact .inl ⟨e.symm, (Option.some.inj h).symm⟩
    · cases h
  · rw [if_neg e] at h
    exact .inr ⟨fun h => e h.symm, h⟩
theorem pw_ne {l : List Nat} (h : l.Pairwise (· ≠ ·)) {i j x y : Nat} (hi : l[i]? = some x) (hj : l[j]? = some y) (hij : i ≠ j) : x ≠ y := by
  obtain ⟨hi', rfl⟩ := List.getElem?_eq_some_iff.1 hi
  obtain ⟨hj', rfl⟩ := List.getElem?_eq_some_iff.1 hj
  rcases Nat.lt_or_gt_of_ne hij with h1 | h1
  · exact List.pairwise_iff_getElem.1 h i j hi' hj' h1
  · exact fun e => List.pairwise_iff_getElem.1 h j i hj' hi' h1 e.symm
theorem pw_row {l : List Value} (h : l.Pairwise (fun u v => ∀ k, u.ownBlock = some k → v.ownBlock ≠ some k)) {i j : Nat} {x y : Value} (hi : l[i]? = some x) (hj : l[j]? = some y) (hij : i ≠ j) {k : Nat} (hk : x.ownBlock = some k) : y.ownBlock ≠ some k := by
  obtain ⟨hi', rfl⟩ := List.getElem?_eq_some_iff.1 hi
  obtain ⟨hj', rfl⟩ := List.getElem?_eq_some_iff.1 hj
  rcases Nat.lt_or_gt_of_ne hij with h1 | h1
  · exact List.pairwise_iff_getElem.1 h i j hi' hj' h1 k hk
  · exact fun e => List.pairwise_iff_getElem.1 h j i hj' hi' h1 k e hk
/-- What stays when one document turns. -/
theorem FlwP.turned_doc (h : FlwP w F p S L) {j b : Nat} {D E : DocS} {v u : Value} (h1 : L.ds[j]? = some b) (h2 : S.docs[j]? = some D) (h3 : L.vp[j]? = some v) (hFG : ∀ k, F k → G k) (hm : ∀ k, F k → k ≠ b → v.ownBlock ≠ some k → w'.heap[k]? = w.heap[k]?)
    (hE : DocAt w' G b E u) (hu : ∀ k, u.ownBlock = some k → v.ownBlock = some k ∨ ¬ F k) (hlt : ∀ k, G k → k < w'.heap.size) : FlwP w' G p { S with docs := S.docs.set j E } { L with vp := L.vp.set j u } := by
  have hD := h.docs j b D v h1 h2 h3
  refine ⟨?_, hFG _ h.own, ?_, ?_, hFG _ h.ownm, ?_, ?_, ?_, ?_, ?_, h.apd, ?_, hlt⟩
  · exact (hm _ h.own (fun e => typed_ne hD.tb h.tp (by decide) e.symm) (fun e => typed_ne (hD.tv e) h.tp (by decide) rfl)).trans h.blk
  · exact row_over rfl h.steps hFG (fun k hk => hm k (h.steps.1 k hk) (typed_ne (h.ts hk) hD.tb (by decide)) (fun e => typed_ne (h.ts hk) (hD.tv e) (by decide) rfl))
  · exact h.who.move (hm _ h.ownm (fun e => typed_map hD.tb h.who e.symm) (fun e => typed_map (hD.tv e) h.who rfl))
  · exact row_over rfl h.rowd hFG (fun k hk => hm k (h.rowd.1 k hk) (typed_ne (h.td hk) hD.tb (by decide)) (fun e => typed_ne (h.td hk) (hD.tv e) (by decide) rfl))
  · exact row_over rfl h.acts hFG (fun k hk => hm k (h.acts.1 k hk) (typed_ne (h.ta hk) hD.tb (by decide)) (fun e => typed_ne (h.ta hk) (hD.tv e) (by decide) rfl))
  · show L.ds.length = (S.docs.set j E).length
    rw [List.length_set, h.lend]
  · show (L.vp.set j u).length = (S.docs.set j E).length
    rw [List.length_set, List.length_set, h.lenp]
  · intro i x X y g1 g2 g3
    have g1 : L.ds[i]? = some x := g1
    have g2 : (S.docs.set j E)[i]? = some X := g2
    have g3 : (L.vp.set j u)[i]? = some y := g3
    rcases get_set g2 with ⟨rfl, rfl⟩ | ⟨hij, g2⟩
    · rcases get_set g3 with ⟨_, rfl⟩ | ⟨hn, _⟩
      · rw [h1] at g1
        obtain rfl := Option.some.inj g1
        exact hE
      · exact absurd rfl hn
    · rcases get_set g3 with ⟨e, _⟩ | ⟨_, g3⟩
      · exact absurd e hij
      · have hX := h.docs i x X y g1 g2 g3
        exact hX.move hFG (hm _ hX.own (pw_ne h.apd g1 h1 hij) (fun e => typed_ne (hD.tv e) hX.tb (by decide) rfl)) (fun k hk => hm k (hX.row.1 k hk) (typed_ne (hX.tv hk) hD.tb (by decide)) (pw_row h.app g3 h3 hij hk))
  · show (L.vp.set j u).Pairwise _
    rw [List.pairwise_iff_getElem]
    intro i1 i2 k1 k2 hlt2 k hk1 hk2
    have a1 : (L.vp.set j u)[i1]? = some ((L.vp.set j u)[i1]) := List.getElem?_eq_getElem k1
    have a2 : (L.vp.set j u)[i2]? = some ((L.vp.set j u)[i2]) := List.getElem?_eq_getElem k2
    have inF : ∀ (i : Nat) (y : Value), L.vp[i]? = some y → ∀ k, y.ownBlock = some k → F k := by
      intro i y hy k hk
      have hi := get_lt hy
      rw [h.lenp] at hi
      have hi2 : i < L.ds.length := by rw [h.lend]; exact hi
      exact (h.docs i _ _ y (List.getElem?_eq_getElem hi2) (List.getElem?_eq_getElem hi) hy).row.1 k hk
    rcases get_set a1 with ⟨e1, b1⟩ | ⟨n1, b1⟩
    · rcases get_set a2 with ⟨e2, _⟩ | ⟨n2, b2⟩
      · omega
      · rw [b1] at hk1
        rcases hu k hk1 with hv | hf
        · exact pw_row h.app b2 h3 n2 hk2 hv
        · exact hf (inF i2 _ b2 k hk2)
    · rcases get_set a2 with ⟨e2, b2⟩ | ⟨n2, b2⟩
      · rw [b2] at hk2
        rcases hu k hk2 with hv | hf
        · exact pw_row h.app b1 h3 n1 hk1 hv
        · exact hf (inF i1 _ b1 k hk1)
      · exact pw_row h.app b1 b2 (by omega) hk1 hk2
end
/-- The workflow has become S. -/
def After (F : Nat → Prop) (w w' : World) (p : Nat) (S : FlowS) : Prop := ∃ G, Flw w' G p S ∧ Stp F G w w'
theorem After.intro {F : Nat → Prop} {w w' : World} {p : Nat} {S : FlowS} (G : Nat → Prop) (L : Parts) (h : FlwP w' G p S L) (hs : Stp F G w w') : After F w w' p S := ⟨G, ⟨L, h⟩, hs⟩
theorem After.then {F G : Nat → Prop} {w w1 w' : World} {p : Nat} {S : FlowS} (h : Stp F G w w1) (k : After G w1 w' p S) : After F w w' p S := by
  obtain ⟨H, h1, h2⟩ := k
  exact ⟨H, h1, h.trans h2⟩
theorem After.same {F : Nat → Prop} {w : World} {p : Nat} {S : FlowS} (h : Flw w F p S) : After F w w p S := ⟨F, h, Stp.refl _ _⟩
end Go.Proofs.Ytbbhichndfbooaa.P
