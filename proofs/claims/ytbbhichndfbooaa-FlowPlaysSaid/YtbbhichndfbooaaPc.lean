/- Texts of mine and of the print, joined: HandF, HandNeed, HandNote, HandDraft, HandFind, HandMove, HandSub, HandApp, HandRed, HandOut, HandMap, Px3, HandNew, Px10, HandRf, HandRneed, HandRdoc, HandRget, HandRnote, Px6, HandLive, HandNil, HandPlay, HandAct. -/
import Derived.Test.YtbbhichndfbooaaPb
import Derived.Maps.OwnRows
import Derived.Maps.OwnSet
import Derived.Maps.Views
import Derived.Deep.RegionLaw
import Derived.Deep.AppendLies
import Derived.Deep.RegionHeld3
import Derived.RegionTactic
import Derived.Laws.Pointers
import Derived.Lib.SliceRun
import Derived.Carry
namespace Go.Proofs.Ytbbhichndfbooaa.P
open Go.RowKit Go.Proofs.YtbbhichndfbooaaW.PrintWords Go.Proofs.YtbbhichndfbooaaW.PrintLast Go.Proofs.YtbbhichndfbooaaW.PrintMore Go.Maps Go.ChangeShapes Go.WideShapes Go.WideMaps
set_option linter.unusedVariables false
set_option linter.unusedSimpArgs false
/-! ### The world but for some blocks -/
/-- Nothing that lay has turned, but for the blocks in X. -/
structure But (X : Nat → Prop) (w w' : World) : Prop where
  os : w'.os = w.os
  tape : w'.tape = w.tape
  output : w'.output = w.output
  size : w.heap.size ≤ w'.heap.size
  block : ∀ k, k < w.heap.size → ¬ X k → w'.heap[k]? = w.heap[k]?
theorem But.refl (X : Nat → Prop) (w : World) : But X w w := ⟨rfl, rfl, rfl, Nat.le_refl _, fun _ _ _ => rfl⟩
theorem But.trans {X : Nat → Prop} {a b c : World} (h : But X a b) (k : But X b c) : But X a c :=
  ⟨k.os.trans h.os, k.tape.trans h.tape, k.output.trans h.output, Nat.le_trans h.size k.size, fun i hi hx => (k.block i (Nat.lt_of_lt_of_le hi h.size) hx).trans (h.block i hi hx)⟩
theorem But.mono {X Y : Nat → Prop} {w w' : World} (h : But X w w') (hx : ∀ k, k < w.heap.size → X k → Y k) : But Y w w' := ⟨h.os, h.tape, h.output, h.size, fun k hk hy => h.block k hk (fun e => hy (hx k hk e))⟩
theorem But.of_below {w w' : World} (h : Below w.heap.size w w') (X : Nat → Prop) : But X w w' := ⟨h.os, h.tape, h.output, h.size, fun k hk _ => h.block k hk⟩
theorem But.of_grown {w w' : World} {row : Option Nat} (h : w.grownBy w' row) {X : Nat → Prop} (hx : ∀ k, row = some k → X k) : But X w w' := ⟨h.os, h.tape, h.output, h.size, fun k hk hn => h.block k hk (fun e => hn (hx k e.symm))⟩
theorem But.alloc {X : Nat → Prop} {a w : World} (h : But X a w) (o : Obj) : But X a (w.alloc o) := h.trans (But.of_below ((Below.refl _ w).alloc (Nat.le_refl _) o) X)
theorem But.drewN {X : Nat → Prop} {a w : World} (h : But X a w) (n : Nat) : But X a (w.drewN n) := h.trans (But.of_below (pw_below_drewN (Below.refl _ w) n) X)
theorem But.setCell {X : Nat → Prop} {a w : World} (h : But X a w) {p : Addr} (hp : X p.block) (u : Value) : But X a (w.setCell p u) :=
  h.trans ⟨rfl, rfl, rfl, by simp [World.setCell], fun k hk hn => Below.heap_setCell _ _ _ _ (fun e => hn (by rw [e]; exact hp))⟩
theorem But.below {X : Nat → Prop} {w0 w w' : World} {n : Nat} (h0 : Below n w0 w) (h : But X w w') (hn : n ≤ w.heap.size) (hx : ∀ k, X k → n ≤ k) : Below n w0 w' :=
  h0.trans ⟨h.os, h.tape, h.output, h.size, fun k hk => h.block k (by omega) (fun e => by have := hx k e; omega)⟩
/-- A block that lay is what it was. -/
theorem But.obj {X : Nat → Prop} {w w' : World} (h : But X w w') {k : Nat} {o : Obj} (ho : w.heap[k]? = some o) (hx : ¬ X k) : w'.heap[k]? = some o := (h.block k (Array.getElem?_eq_some_iff.1 ho).1 hx).trans ho
theorem below_of_but {w w' : World} (h : But (fun _ => False) w w') : Below w.heap.size w w' := ⟨h.os, h.tape, h.output, h.size, fun k hk => h.block k hk (fun e => e)⟩
theorem with_world {P : World → Prop} (W : World) (h : ∀ w2, w2 = W → P w2) : P W := h W rfl
/-! ### The workflow -/
/-- A string is among strings. -/
def hasB (l : List ByteArray) (s : ByteArray) : Bool := l.any (fun a => a.toList == s.toList)
theorem bytes_ext {a b : ByteArray} (h : a.toList = b.toList) : a = b := ByteArray.ext (Array.ext' (by rw [← ByteArray.toList_eq a, ← ByteArray.toList_eq b]; exact h))
structure DocS where
  au : ByteArray
  vo : Int
  st : Int
  ap : List ByteArray
structure FlowS where
  steps : List S60
  appr : List ByteArray
  docs : List DocS
  acts : List S55
/-- A pointer to the start of a block. -/
def kP : Kd Nat where
  sz := 1
  E := []
  K _ b cs := cs = [.pointer (some ⟨b, 0, none⟩)]
  M _ _ _ b cs := cs = [.pointer (some ⟨b, 0, none⟩)]
  K_len := by rintro _ _ _ rfl; rfl
  K_one := by rintro _ _ _ rfl u hu; cases hu with | head => rfl | tail _ h => cases h
  K_below _ h := h
  K_of_M h := h
  M_mono _ h := h
  M_bound h := h
  M_move _ h := h
  M_lower _ h := h
/-- Block m is a map whose look-up tells who is among l. -/
def Who (w : World) (m : Nat) (l : List ByteArray) : Prop :=
  ∃ es clock, w.heap[m]? = some (.map es clock) ∧ ∀ (W : World) (s : ByteArray), W.heap[m]? = some (.map es clock) → s.size ≤ maxLen → (Instr.lookup 64 (.map (some m)) (.string s) false).run Try.prog W = .ok (.bool (hasB l s)) W
theorem Who.move {w w' : World} {m : Nat} {l : List ByteArray} (h : Who w m l) (hm : w'.heap[m]? = w.heap[m]?) : Who w' m l := by
  obtain ⟨es, cl, h1, h2⟩ := h
  exact ⟨es, cl, hm.trans h1, h2⟩
theorem Who.lt {w : World} {m : Nat} {l : List ByteArray} (h : Who w m l) : m < w.heap.size := by obtain ⟨es, cl, h1, _⟩ := h; exact (Array.getElem?_eq_some_iff.1 h1).1
/-- Block b is the document D; its approvals are the slice v. -/
structure DocAt (w : World) (F : Nat → Prop) (b : Nat) (D : DocS) (v : Value) : Prop where
  blk : w.heap[b]? = some (.cells #[.string D.au, .int .i64 D.vo, .int .i64 D.st, v] 75 (0, 0))
  own : F b
  row : Kd.string.R 9 w 0 F v D.ap
theorem DocAt.move {w w' : World} {F G : Nat → Prop} {b : Nat} {D : DocS} {v : Value} (h : DocAt w F b D v) (hFG : ∀ k, F k → G k) (hb : w'.heap[b]? = w.heap[b]?) (hm : ∀ k, v.ownBlock = some k → w'.heap[k]? = w.heap[k]?) : DocAt w' G b D v := by
  refine ⟨hb.trans h.blk, hFG _ h.own, ?_⟩
  have h1 := Kd.R_mono (Kd.R_tight rfl h.row) (ok' := fun k => v.ownBlock = some k) (fun k hk => hk.symm)
  exact Kd.R_mono (Kd.R_step h1 (fun k hk _ => hm k hk)) (fun k hk => hFG k (h.row.1 k hk))
/-- The workflow's parts: the steps, the map, the documents, the acts; the documents' blocks and their slices. -/
structure Parts where
  vs : Value
  m : Nat
  vd : Value
  va : Value
  ds : List Nat
  vp : List Value
structure FlwP (w : World) (F : Nat → Prop) (p : Nat) (S : FlowS) (L : Parts) : Prop where
  blk : w.heap[p]? = some (.cells #[L.vs, .map (some L.m), L.vd, L.va] 67 (0, 0))
  own : F p
  steps : k60.R 60 w 0 F L.vs S.steps
  who : Who w L.m S.appr
  ownm : F L.m
  rowd : kP.R 72 w 0 F L.vd L.ds
  acts : k55.R 55 w 0 F L.va S.acts
  lend : L.ds.length = S.docs.length
  lenp : L.vp.length = S.docs.length
  docs : ∀ (j : Nat) (b : Nat) (D : DocS) (v : Value), L.ds[j]? = some b → S.docs[j]? = some D → L.vp[j]? = some v → DocAt w F b D v
  apd : L.ds.Pairwise (· ≠ ·)
  app : L.vp.Pairwise (fun u v => ∀ k, u.ownBlock = some k → v.ownBlock ≠ some k)
  lt : ∀ k, F k → k < w.heap.size
def Flw (w : World) (F : Nat → Prop) (p : Nat) (S : FlowS) : Prop := ∃ L, FlwP w F p S L
theorem FlwP.below {w w' : World} {F : Nat → Prop} {p : Nat} {S : FlowS} {L : Parts} (h : FlwP w F p S L) (hb : ∀ k, F k → w'.heap[k]? = w.heap[k]?) : FlwP w' F p S L := by
  refine ⟨(hb _ h.own).trans h.blk, h.own, Kd.R_step h.steps (fun k hk _ => hb k hk), h.who.move (hb _ h.ownm), h.ownm, Kd.R_step h.rowd (fun k hk _ => hb k hk), Kd.R_step h.acts (fun k hk _ => hb k hk), h.lend, h.lenp, fun j b D v h1 h2 h3 => ?_, h.apd, h.app, fun k hk => ?_⟩
  · have hd := h.docs j b D v h1 h2 h3
    exact hd.move (fun _ hk => hk) (hb _ hd.own) (fun k hk => hb k (hd.row.1 k hk))
  · have := h.lt k hk
    have h2 := hb k hk
    rw [Array.getElem?_eq_getElem this] at h2
    exact (Array.getElem?_eq_some_iff.1 h2).1
theorem Flw.keep {w w' : World} {F : Nat → Prop} {p : Nat} {S : FlowS} (h : Flw w F p S) (hb : ∀ k, F k → w'.heap[k]? = w.heap[k]?) : Flw w' F p S := by
  obtain ⟨L, h⟩ := h
  exact ⟨L, h.below hb⟩
theorem Flw.lt {w : World} {F : Nat → Prop} {p : Nat} {S : FlowS} (h : Flw w F p S) : ∀ k, F k → k < w.heap.size := by
  obtain ⟨L, h⟩ := h
  exact h.lt
theorem Flw.below {w w' : World} {F : Nat → Prop} {p : Nat} {S : FlowS} (h : Flw w F p S) (hb : Below w.heap.size w w') : Flw w' F p S := h.keep (fun k hk => hb.block k (h.lt k hk))
theorem Flw.but {X : Nat → Prop} {w w' : World} {F : Nat → Prop} {p : Nat} {S : FlowS} (h : Flw w F p S) (hb : But X w w') (hX : ∀ k, F k → ¬ X k) : Flw w' F p S := h.keep (fun k hk => hb.block k (h.lt k hk) (hX k hk))
/-- What a call may do to what is owned. -/
structure Stp (F F' : Nat → Prop) (w w' : World) : Prop where
  but : But F w w'
  grow : ∀ k, F' k → F k ∨ w.heap.size ≤ k
theorem Stp.refl (F : Nat → Prop) (w : World) : Stp F F w w := ⟨But.refl _ _, fun _ h => .inl h⟩
theorem Stp.trans {F G H : Nat → Prop} {a b c : World} (h : Stp F G a b) (k : Stp G H b c) : Stp F H a c :=
  ⟨⟨k.but.os.trans h.but.os, k.but.tape.trans h.but.tape, k.but.output.trans h.but.output, Nat.le_trans h.but.size k.but.size, fun i hi hx => (k.but.block i (Nat.lt_of_lt_of_le hi h.but.size) (fun hg => (h.grow i hg).elim hx (fun hl => by omega))).trans (h.but.block i hi hx)⟩,
    fun i hi => (k.grow i hi).elim (fun hg => h.grow i hg) (fun hl => .inr (Nat.le_trans h.but.size hl))⟩
/-! ### What lies apart, by its types -/
def Typed (w : World) (k t : Nat) : Prop := ∃ cs, w.heap[k]? = some (.cells cs t (0, 0))
theorem typed_ne {w : World} {k k' t t' : Nat} (h : Typed w k t) (h' : Typed w k' t') (ht : t ≠ t') : k ≠ k' := by
  obtain ⟨cs, h⟩ := h
  obtain ⟨cs', h'⟩ := h'
  exact blk_ne h h' ht
theorem typed_map {w : World} {k m t : Nat} {l : List ByteArray} (h : Typed w k t) (hm : Who w m l) : k ≠ m := by
  rintro rfl
  obtain ⟨cs, h⟩ := h
  obtain ⟨es, cl, h1, _⟩ := hm
  rw [h1] at h
  cases h
section
variable {w w' : World} {F G X : Nat → Prop} {p : Nat} {S : FlowS} {L : Parts}
theorem FlwP.tp (h : FlwP w F p S L) : Typed w p 67 := ⟨_, h.blk⟩
theorem FlwP.ts (h : FlwP w F p S L) {k : Nat} (hk : L.vs.ownBlock = some k) : Typed w k 60 := Kd.R_typed h.steps k hk
theorem FlwP.td (h : FlwP w F p S L) {k : Nat} (hk : L.vd.ownBlock = some k) : Typed w k 72 := Kd.R_typed h.rowd k hk
theorem FlwP.ta (h : FlwP w F p S L) {k : Nat} (hk : L.va.ownBlock = some k) : Typed w k 55 := Kd.R_typed h.acts k hk
theorem DocAt.tb {b : Nat} {D : DocS} {v : Value} (h : DocAt w F b D v) : Typed w b 75 := ⟨_, h.blk⟩
theorem DocAt.tv {b : Nat} {D : DocS} {v : Value} (h : DocAt w F b D v) {k : Nat} (hk : v.ownBlock = some k) : Typed w k 9 := Kd.R_typed h.row k hk
/-- A row of plain elements, carried over. -/
theorem row_over {α : Type} {d : Kd α} {e : Nat} {v : Value} {xs : List α} (hE : d.E = []) (h : d.R e w 0 F v xs) (hFG : ∀ k, F k → G k) (hm : ∀ k, v.ownBlock = some k → w'.heap[k]? = w.heap[k]?) : d.R e w' 0 G v xs := by
  have h1 := Kd.R_mono (Kd.R_tight hE h) (ok' := fun k => v.ownBlock = some k) (fun k hk => hk.symm)
  exact Kd.R_mono (Kd.R_step h1 (fun k hk _ => hm k hk)) (fun k hk => hFG k (h.1 k hk))
/-- What stays when the workflow's own block and the acts turn. -/
theorem FlwP.turned_acts (h : FlwP w F p S L) {va : Value} {al : List S55} (hFG : ∀ k, F k → G k) (hm : ∀ k, F k → k ≠ p → L.va.ownBlock ≠ some k → w'.heap[k]? = w.heap[k]?)
    (hb : w'.heap[p]? = some (.cells #[L.vs, .map (some L.m), L.vd, va] 67 (0, 0))) (ha : k55.R 55 w' 0 G va al) (hlt : ∀ k, G k → k < w'.heap.size) : FlwP w' G p { S with acts := al } { L with va := va } := by
  refine ⟨hb, hFG _ h.own, ?_, ?_, hFG _ h.ownm, ?_, ha, h.lend, h.lenp, ?_, h.apd, h.app, hlt⟩
  · exact row_over rfl h.steps hFG (fun k hk => hm k (h.steps.1 k hk) (typed_ne (h.ts hk) h.tp (by decide)) (fun e => typed_ne (h.ts hk) (h.ta e) (by decide) rfl))
  · exact h.who.move (hm _ h.ownm (fun e => typed_map h.tp h.who e.symm) (fun e => typed_map (h.ta e) h.who rfl))
  · exact row_over rfl h.rowd hFG (fun k hk => hm k (h.rowd.1 k hk) (typed_ne (h.td hk) h.tp (by decide)) (fun e => typed_ne (h.td hk) (h.ta e) (by decide) rfl))
  · intro j b D v h1 h2 h3
    have hd := h.docs j b D v h1 h2 h3
    exact hd.move hFG (hm _ hd.own (typed_ne hd.tb h.tp (by decide)) (fun e => typed_ne hd.tb (h.ta e) (by decide) rfl)) (fun k hk => hm k (hd.row.1 k hk) (typed_ne (hd.tv hk) h.tp (by decide)) (fun e => typed_ne (hd.tv hk) (h.ta e) (by decide) rfl))
theorem get_snoc {α : Type} {l : List α} {x y : α} {j : Nat} (h : (l ++ [x])[j]? = some y) : l[j]? = some y ∨ (j = l.length ∧ y = x) := by
  rcases Nat.lt_trichotomy j l.length with hj | hj | hj
  · rw [List.getElem?_append_left hj] at h
    exact .inl h
  · subst hj
    rw [List.getElem?_append_right (Nat.le_refl _), Nat.sub_self] at h
    exact .inr ⟨rfl, (Option.some.inj h).symm⟩
  · rw [List.getElem?_eq_none (by rw [List.length_append, List.length_singleton]; omega)] at h
    cases h
theorem get_lt {α : Type} {l : List α} {y : α} {j : Nat} (h : l[j]? = some y) : j < l.length := (List.getElem?_eq_some_iff.1 h).1
theorem FlwP.ds_own (h : FlwP w F p S L) {x : Nat} (hx : x ∈ L.ds) : F x := by
  obtain ⟨j, hj, rfl⟩ := List.mem_iff_getElem.1 hx
  have hj2 : j < S.docs.length := by rw [← h.lend]; exact hj
  have hj3 : j < L.vp.length := by rw [h.lenp]; exact hj2
  exact (h.docs j _ _ _ (List.getElem?_eq_getElem hj) (List.getElem?_eq_getElem hj2) (List.getElem?_eq_getElem hj3)).own
/-- What stays when the workflow's own block and the list of documents turn: a document more. -/
theorem FlwP.turned_docs (h : FlwP w F p S L) {vd v : Value} {b : Nat} {D : DocS} (hFG : ∀ k, F k → G k) (hm : ∀ k, F k → k ≠ p → L.vd.ownBlock ≠ some k → w'.heap[k]? = w.heap[k]?)
    (hb : w'.heap[p]? = some (.cells #[L.vs, .map (some L.m), vd, L.va] 67 (0, 0))) (hd : kP.R 72 w' 0 G vd (L.ds ++ [b])) (hD : DocAt w' G b D v) (hbn : ∀ x ∈ L.ds, x ≠ b) (hvn : ∀ u ∈ L.vp, ∀ k, u.ownBlock = some k → v.ownBlock ≠ some k) (hlt : ∀ k, G k → k < w'.heap.size) :
    FlwP w' G p { S with docs := S.docs ++ [D] } { L with vd := vd, ds := L.ds ++ [b], vp := L.vp ++ [v] } := by
  refine ⟨hb, hFG _ h.own, ?_, ?_, hFG _ h.ownm, hd, ?_, ?_, ?_, ?_, ?_, ?_, hlt⟩
  · exact row_over rfl h.steps hFG (fun k hk => hm k (h.steps.1 k hk) (typed_ne (h.ts hk) h.tp (by decide)) (fun e => typed_ne (h.ts hk) (h.td e) (by decide) rfl))
  · exact h.who.move (hm _ h.ownm (fun e => typed_map h.tp h.who e.symm) (fun e => typed_map (h.td e) h.who rfl))
  · exact row_over rfl h.acts hFG (fun k hk => hm k (h.acts.1 k hk) (typed_ne (h.ta hk) h.tp (by decide)) (fun e => typed_ne (h.ta hk) (h.td e) (by decide) rfl))
  · show (L.ds ++ [b]).length = (S.docs ++ [D]).length
    simp [h.lend]
  · show (L.vp ++ [v]).length = (S.docs ++ [D]).length
    simp [h.lenp]
  · intro j x E u h1 h2 h3
    have h1 : (L.ds ++ [b])[j]? = some x := h1
    have h2 : (S.docs ++ [D])[j]? = some E := h2
    have h3 : (L.vp ++ [v])[j]? = some u := h3
    rcases get_snoc h1 with a1 | ⟨a1, rfl⟩
    · have hj := get_lt a1
      rw [h.lend] at hj
      rcases get_snoc h2 with a2 | ⟨a2, _⟩
      · rcases get_snoc h3 with a3 | ⟨a3, _⟩
        · have hd := h.docs j x E u a1 a2 a3
          exact hd.move hFG (hm _ hd.own (typed_ne hd.tb h.tp (by decide)) (fun e => typed_ne hd.tb (h.td e) (by decide) rfl)) (fun k hk => hm k (hd.row.1 k hk) (typed_ne (hd.tv hk) h.tp (by decide)) (fun e => typed_ne (hd.tv hk) (h.td e) (by decide) rfl))
        · rw [h.lenp] at a3; omega
      · omega
    · rw [h.lend] at a1
      rcases get_snoc h2 with a2 | ⟨_, rfl⟩
      · have := get_lt a2; omega
      · rcases get_snoc h3 with a3 | ⟨_, rfl⟩
        · have := get_lt a3; rw [h.lenp] at this; omega
        · exact hD
  · show (L.ds ++ [b]).Pairwise (· ≠ ·)
    rw [List.pairwise_append]
    exact ⟨h.apd, List.pairwise_singleton _ _, fun x hx y hy => by rw [List.mem_singleton] at hy; subst hy; exact hbn x hx⟩
  · show (L.vp ++ [v]).Pairwise _
    rw [List.pairwise_append]
    exact ⟨h.app, List.pairwise_singleton _ _, fun x hx y hy => by rw [List.mem_singleton] at hy; subst hy; exact hvn x hx⟩
theorem get_set {α : Type} {l : List α} {j i : Nat} {x y : α} (h : (l.set j x)[i]? = some y) : (i = j ∧ y = x) ∨ (i ≠ j ∧ l[i]? = some y) := by
  rw [List.getElem?_set] at h
  by_cases e : j = i
  · rw [if_pos e] at h
    split at h
    · exact .inl ⟨e.symm, (Option.some.inj h).symm⟩
    · cases h
  · rw [if_neg e] at h
    exact .inr ⟨fun h => e h.symm, h⟩
theorem pw_ne {l : List Nat} (h : l.Pairwise (· ≠ ·)) {i j x y : Nat} (hi : l[i]? = some x) (hj : l[j]? = some y) (hij : i ≠ j) : x ≠ y := by
  obtain ⟨hi', rfl⟩ := List.getElem?_eq_some_iff.1 hi
  obtain ⟨hj', rfl⟩ := List.getElem?_eq_some_iff.1 hj
  rcases Nat.lt_or_gt_of_ne hij with h1 | h1
  · exact List.pairwise_iff_getElem.1 h i j hi' hj' h1
  · exact fun e => List.pairwise_iff_getElem.1 h j i hj' hi' h1 e.symm
theorem pw_row {l : List Value} (h : l.Pairwise (fun u v => ∀ k, u.ownBlock = some k → v.ownBlock ≠ some k)) {i j : Nat} {x y : Value} (hi : l[i]? = some x) (hj : l[j]? = some y) (hij : i ≠ j) {k : Nat} (hk : x.ownBlock = some k) : y.ownBlock ≠ some k := by
  obtain ⟨hi', rfl⟩ := List.getElem?_eq_some_iff.1 hi
  obtain ⟨hj', rfl⟩ := List.getElem?_eq_some_iff.1 hj
  rcases Nat.lt_or_gt_of_ne hij with h1 | h1
  · exact List.pairwise_iff_getElem.1 h i j hi' hj' h1 k hk
  · exact fun e => List.pairwise_iff_getElem.1 h j i hj' hi' h1 k e hk
/-- What stays when one document turns. -/
theorem FlwP.turned_doc (h : FlwP w F p S L) {j b : Nat} {D E : DocS} {v u : Value} (h1 : L.ds[j]? = some b) (h2 : S.docs[j]? = some D) (h3 : L.vp[j]? = some v) (hFG : ∀ k, F k → G k) (hm : ∀ k, F k → k ≠ b → v.ownBlock ≠ some k → w'.heap[k]? = w.heap[k]?)
    (hE : DocAt w' G b E u) (hu : ∀ k, u.ownBlock = some k → v.ownBlock = some k ∨ ¬ F k) (hlt : ∀ k, G k → k < w'.heap.size) : FlwP w' G p { S with docs := S.docs.set j E } { L with vp := L.vp.set j u } := by
  have hD := h.docs j b D v h1 h2 h3
  refine ⟨?_, hFG _ h.own, ?_, ?_, hFG _ h.ownm, ?_, ?_, ?_, ?_, ?_, h.apd, ?_, hlt⟩
  · exact (hm _ h.own (fun e => typed_ne hD.tb h.tp (by decide) e.symm) (fun e => typed_ne (hD.tv e) h.tp (by decide) rfl)).trans h.blk
  · exact row_over rfl h.steps hFG (fun k hk => hm k (h.steps.1 k hk) (typed_ne (h.ts hk) hD.tb (by decide)) (fun e => typed_ne (h.ts hk) (hD.tv e) (by decide) rfl))
  · exact h.who.move (hm _ h.ownm (fun e => typed_map hD.tb h.who e.symm) (fun e => typed_map (hD.tv e) h.who rfl))
  · exact row_over rfl h.rowd hFG (fun k hk => hm k (h.rowd.1 k hk) (typed_ne (h.td hk) hD.tb (by decide)) (fun e => typed_ne (h.td hk) (hD.tv e) (by decide) rfl))
  · exact row_over rfl h.acts hFG (fun k hk => hm k (h.acts.1 k hk) (typed_ne (h.ta hk) hD.tb (by decide)) (fun e => typed_ne (h.ta hk) (hD.tv e) (by decide) rfl))
  · show L.ds.length = (S.docs.set j E).length
    rw [List.length_set, h.lend]
  · show (L.vp.set j u).length = (S.docs.set j E).length
    rw [List.length_set, List.length_set, h.lenp]
  · intro i x X y g1 g2 g3
    have g1 : L.ds[i]? = some x := g1
    have g2 : (S.docs.set j E)[i]? = some X := g2
    have g3 : (L.vp.set j u)[i]? = some y := g3
    rcases get_set g2 with ⟨rfl, rfl⟩ | ⟨hij, g2⟩
    · rcases get_set g3 with ⟨_, rfl⟩ | ⟨hn, _⟩
      · rw [h1] at g1
        obtain rfl := Option.some.inj g1
        exact hE
      · exact absurd rfl hn
    · rcases get_set g3 with ⟨e, _⟩ | ⟨_, g3⟩
      · exact absurd e hij
      · have hX := h.docs i x X y g1 g2 g3
        exact hX.move hFG (hm _ hX.own (pw_ne h.apd g1 h1 hij) (fun e => typed_ne (hD.tv e) hX.tb (by decide) rfl)) (fun k hk => hm k (hX.row.1 k hk) (typed_ne (hX.tv hk) hD.tb (by decide)) (pw_row h.app g3 h3 hij hk))
  · show (L.vp.set j u).Pairwise _
    rw [List.pairwise_iff_getElem]
    intro i1 i2 k1 k2 hlt2 k hk1 hk2
    have a1 : (L.vp.set j u)[i1]? = some ((L.vp.set j u)[i1]) := List.getElem?_eq_getElem k1
    have a2 : (L.vp.set j u)[i2]? = some ((L.vp.set j u)[i2]) := List.getElem?_eq_getElem k2
    have inF : ∀ (i : Nat) (y : Value), L.vp[i]? = some y → ∀ k, y.ownBlock = some k → F k := by
      intro i y hy k hk
      have hi := get_lt hy
      rw [h.lenp] at hi
      have hi2 : i < L.ds.length := by rw [h.lend]; exact hi
      exact (h.docs i _ _ y (List.getElem?_eq_getElem hi2) (List.getElem?_eq_getElem hi) hy).row.1 k hk
    rcases get_set a1 with ⟨e1, b1⟩ | ⟨n1, b1⟩
    · rcases get_set a2 with ⟨e2, _⟩ | ⟨n2, b2⟩
      · omega
      · rw [b1] at hk1
        rcases hu k hk1 with hv | hf
        · exact pw_row h.app b2 h3 n2 hk2 hv
        · exact hf (inF i2 _ b2 k hk2)
    · rcases get_set a2 with ⟨e2, b2⟩ | ⟨n2, b2⟩
      · rw [b2] at hk2
        rcases hu k hk2 with hv | hf
        · exact pw_row h.app b1 h3 n1 hk1 hv
        · exact hf (inF i1 _ b1 k hk1)
      · exact pw_row h.app b1 b2 (by omega) hk1 hk2
end
/-- The workflow has become S. -/
def After (F : Nat → Prop) (w w' : World) (p : Nat) (S : FlowS) : Prop := ∃ G, Flw w' G p S ∧ Stp F G w w'
theorem After.intro {F : Nat → Prop} {w w' : World} {p : Nat} {S : FlowS} (G : Nat → Prop) (L : Parts) (h : FlwP w' G p S L) (hs : Stp F G w w') : After F w w' p S := ⟨G, ⟨L, h⟩, hs⟩
theorem After.then {F G : Nat → Prop} {w w1 w' : World} {p : Nat} {S : FlowS} (h : Stp F G w w1) (k : After G w1 w' p S) : After F w w' p S := by
  obtain ⟨H, h1, h2⟩ := k
  exact ⟨H, h1, h.trans h2⟩
theorem After.same {F : Nat → Prop} {w : World} {p : Nat} {S : FlowS} (h : Flw w F p S) : After F w w p S := ⟨F, h, Stp.refl _ _⟩
def needAt (steps : List S60) (v : Int) (k : Nat) : Int × Bool := match (steps.drop k).find? (fun s => decide (s.f0 ≥ v)) with | some s => (s.f1, true) | none => (0, false)
def needOf (steps : List S60) (v : Int) : Int × Bool := needAt steps v 0
theorem needAt_succ (steps : List S60) (v : Int) {k : Nat} (h : k < steps.length) : needAt steps v k = if (rd_T60 steps (k : Int)).f0 ≥ v then ((rd_T60 steps (k : Int)).f1, true) else needAt steps v (k + 1) := by
  have e : steps.drop k = rd_T60 steps (k : Int) :: steps.drop (k + 1) := by
    rw [show rd_T60 steps (k : Int) = steps[k] by simp [rd_T60, h], List.drop_eq_getElem_cons h]
  unfold needAt
  rw [e, List.find?_cons]
  by_cases c : (rd_T60 steps (k : Int)).f0 ≥ v
  · rw [decide_eq_true c, if_pos c]
  · rw [decide_eq_false c, if_neg c]
theorem needAt_end (steps : List S60) (v : Int) : needAt steps v steps.length = (0, false) := by
  unfold needAt
  rw [List.drop_length]
  rfl
theorem stepsLen {w : World} {F : Nat → Prop} {v : Value} {xs : List S60} (h : k60.R 60 w 0 F v xs) : xs.length ≤ maxLen := by
  obtain ⟨_, inner, h1, _⟩ := h
  rcases h1.2 with ⟨_, h2⟩ | ⟨g, cap, cur, _, _, _, h3, h4, _⟩
  · simp [h2]
  · omega
set_option maxHeartbeats 4000000 in
set_option maxRecDepth 100000 in
theorem need_calls (p : Nat) (S : FlowS) (F : Nat → Prop) (v : Int) (w : World) (h : Flw w F p S) :
    Calls Try.prog 13 #[.pointer (some ⟨p, 0, none⟩), .int .i64 v] w fun e w' => e = .returned (.tuple #[.int .i64 (needOf S.steps v).1, .bool (needOf S.steps v).2]) ∧ Below w.heap.size w w' := by
  obtain ⟨L, h⟩ := h
  obtain ⟨A, c, hv⟩ := Kd.R_slice h.steps
  have hlen := stepsLen h.steps
  unfold maxLen at hlen
  have BK := h.blk
  have hR := h.steps
  have hfl := h.lt _ h.own
  rw [hv] at BK hR
  have c0 := (blk_cell BK 0).trans rfl
  have hC := (Kd.R_reads' hR).2.2
  have HR := Aside0.mk hC
  clear hC hR
  go_enter Try.func13, Try.ntmps13
  go_wp2
  clear c0
  go_loopw [7, 15, 16, 17, 18, 19, 20, 21, 22, 23, 24, 25] (fun _ v15 _ _ _ _ _ _ _ _ _ _ wr => ∃ k : Nat, k ≤ S.steps.length ∧ v15 = .int .i64 k ∧ Aside0 (Below w.heap.size w wr) ∧ Aside0 (needOf S.steps v = needAt S.steps v k)) (fun _ v15 _ _ _ _ _ _ _ _ _ _ _ => S.steps.length - (intOf v15).toNat)
  case atStart => exact ⟨0, Nat.zero_le _, rfl, ⟨Below.refl _ _⟩, ⟨rfl⟩⟩
  case round =>
    obtain ⟨k, hk, rfl, HB, HN⟩ := hrel
    by_cases hlt : k < S.steps.length
    · obtain ⟨ad, e, q0, q1⟩ := at_T60 (Kd.C_below HR.out HB.out) (k : Int) (by omega) (by omega)
      subst e
      rw [Int.toNat_natCast] at q0 q1
      have d1 : decide ((k : Int) < (S.steps.length : Int)) = true := decide_eq_true (by omega)
      have d2 : decide (k < S.steps.length) = true := decide_eq_true hlt
      have p0 : (0 : Int) ≤ (k : Int) := by omega
      have p1 : (k : Int) < (S.steps.length : Int) := by omega
      go_upto_region 6 with (fail)
      refine with_world (P := fun x => Code.wp _ _ _ _ x) _ ?_
      intro w3 hw3
      have B3 : Below w.heap.size w w3 := by rw [hw3]; repeat (first | exact HB.out | apply below_alloc | apply pw_below_drewN | apply below_drew)
      have BS3 : w3.heap[wr.heap.size]? = some (.cells #[.int .i64 (rd_T60 S.steps (k : Int)).f0, .int .i64 (rd_T60 S.steps (k : Int)).f1] 60 (0, 0)) := by rw [hw3]; exact blk_new wr _
      obtain ⟨sn, hsn⟩ : ∃ sn, wr.heap.size = sn := ⟨_, rfl⟩
      rw [hsn] at BS3 ⊢
      clear hw3 q0 q1
      have f0 := (blk_cell BS3 0).trans rfl
      have f1 := (blk_cell BS3 1).trans rfl
      have HB3 := Aside0.mk B3
      clear B3 BS3
      have HS := Aside0.mk (needAt_succ S.steps v hlt)
      obtain ⟨st, hst⟩ : ∃ st, rd_T60 S.steps (k : Int) = st := ⟨_, rfl⟩
      rw [hst] at f0 f1 HS
      clear hst
      by_cases hc : st.f0 ≥ v
      · have hd : decide (v ≤ st.f0) = true := decide_eq_true hc
        go_wp2
        go_ret2
        rw [HN.out, HS.out, if_pos hc]
        exact ⟨rfl, HB3.out⟩
      · have hd : decide (v ≤ st.f0) = false := decide_eq_false hc
        go_wp2
        go_roundw
        case rel => exact ⟨k + 1, by omega, by go_num, HB3, ⟨by rw [HN.out, HS.out, if_neg hc]⟩⟩
        case measure => simp [intOf]; omega
    · obtain rfl : k = S.steps.length := by omega
      have d1 : decide ((S.steps.length : Int) < (S.steps.length : Int)) = false := decide_eq_false (by omega)
      go_wp2
      go_ret2
      rw [HN.out, needAt_end]
      exact ⟨rfl, HB.out⟩
theorem need_is {p : Nat} {S : FlowS} {F : Nat → Prop} {v nn : Int} {ok : Bool} (hn : needOf S.steps v = (nn, ok)) {w : World} (h : Flw w F p S) :
    Calls Try.prog 13 #[.pointer (some ⟨p, 0, none⟩), .int .i64 v] w fun e w' => e = .returned (.tuple #[.int .i64 nn, .bool ok]) ∧ Below w.heap.size w w' := by
  have := need_calls p S F v w h
  rw [hn] at this
  exact this
theorem need_nil (v : Int) (w : World) : Calls Try.prog 13 #[.pointer none, .int .i64 v] w fun e w' => e = .returned (.tuple #[.int .i64 0, .bool false]) ∧ w' = w := by
  go_enter Try.func13, Try.ntmps13
  go_wp2
  go_ret2
  exact ⟨rfl, rfl⟩
/-- The block of a document, by its number. -/
def docOf (L : Parts) (id : Int) : Option Nat := if id < 1 then none else if id > L.ds.length then none else L.ds[(id - 1).toNat]?
def ptrOf : Option Nat → Value
  | none => .pointer none
  | some b => .pointer (some ⟨b, 0, none⟩)
theorem at_kP {w : World} {A : Option Addr} {n : Nat} {xs : List Nat} (h : Kd.C kP w A n xs) (j : Nat) (hj : j < xs.length) (hn : xs.length = n) : ∃ ad, A = some ad ∧ w.cell? (ad.add j) = some (.pointer (some ⟨xs[j], 0, none⟩)) := by
  obtain ⟨ad, c, e, _, hK, hc⟩ := Kd.C_get h 0 (j : Int) (by omega) (by omega)
  have hK : c = [.pointer (some ⟨xs.getD (j : Int).toNat 0, 0, none⟩)] := hK
  subst hK
  refine ⟨ad, e, ?_⟩
  have := hc 0 _ rfl
  rw [Int.toNat_natCast] at this
  have h2 : w.cell? (ad.add (j * 1 + 0)) = some (.pointer (some ⟨xs.getD j 0, 0, none⟩)) := this
  rw [Nat.mul_one, Nat.add_zero] at h2
  rw [h2]
  simp [hj]
theorem rowLen {α : Type} {d : Kd α} {e : Nat} {w : World} {F : Nat → Prop} {v : Value} {xs : List α} (h : d.R e w 0 F v xs) : xs.length ≤ maxLen := by
  obtain ⟨_, inner, h1, _⟩ := h
  rcases h1.2 with ⟨_, h2⟩ | ⟨g, cap, cur, _, _, _, h3, h4, _⟩
  · simp [h2]
  · omega
set_option maxHeartbeats 4000000 in
set_option maxRecDepth 100000 in
theorem doc_calls (p : Nat) (S : FlowS) (L : Parts) (F : Nat → Prop) (id : Int) (hid : (Lit.int .i64 id).wf = true) (w : World) (h : FlwP w F p S L) :
    Calls Try.prog 36 #[.pointer (some ⟨p, 0, none⟩), .int .i64 id] w fun e w' => e = .returned (ptrOf (docOf L id)) ∧ w' = w := by
  obtain ⟨A, c, hv⟩ := Kd.R_slice h.rowd
  have hlen := rowLen h.rowd
  unfold maxLen at hlen
  have BK := h.blk
  have hR := h.rowd
  rw [hv] at BK hR
  have c2 := (blk_cell BK 2).trans rfl
  have hC := (Kd.R_reads' hR).2.2
  have e1 : (decide (id < 1)) = decide (id < 1) := rfl
  have hw : -9223372036854775808 ≤ id ∧ id ≤ 9223372036854775807 := by
    have h : (decide (IntKind.i64.min ≤ id) && decide (id ≤ IntKind.i64.max)) = true := hid
    rw [Bool.and_eq_true, decide_eq_true_iff, decide_eq_true_iff] at h
    exact ⟨h.1, h.2⟩
  unfold docOf
  by_cases h1 : id < 1
  · have d1 : decide (id < 1) = true := decide_eq_true h1
    rw [if_pos h1]
    clear hC hR BK
    go_enter Try.func36, Try.ntmps36
    go_wp2
    go_ret
    exact ⟨rfl, rfl⟩
  · have d1 : decide (id < 1) = false := decide_eq_false h1
    rw [if_neg h1]
    by_cases h2 : id > L.ds.length
    · have d2 : decide ((L.ds.length : Int) < id) = true := decide_eq_true h2
      rw [if_pos h2]
      clear hC hR BK
      go_enter Try.func36, Try.ntmps36
      go_wp2
      go_ret
      exact ⟨rfl, rfl⟩
    · have d2 : decide ((L.ds.length : Int) < id) = false := decide_eq_false h2
      rw [if_neg h2]
      obtain ⟨j, rfl⟩ : ∃ j : Nat, id = (j : Int) + 1 := ⟨(id - 1).toNat, by omega⟩
      have hj : j < L.ds.length := by omega
      obtain ⟨ad, e, hc⟩ := at_kP hC j hj rfl
      subst e
      have e2 : wrap64 ((j : Int) + 1 - 1) = (j : Int) := by unfold wrap64; omega
      have p0 : (0 : Int) ≤ (j : Int) := by omega
      have p1 : (j : Int) < (L.ds.length : Int) := by omega
      have e3 : L.ds[((j : Int) + 1 - 1).toNat]? = some (L.ds[j]) := by
        rw [show ((j : Int) + 1 - 1).toNat = j by omega]
        exact List.getElem?_eq_getElem hj
      rw [e3]
      clear hC hR BK e3
      go_enter Try.func36, Try.ntmps36
      go_wp2
      go_ret
      exact ⟨rfl, rfl⟩
theorem doc_nil (id : Int) (w : World) : Calls Try.prog 36 #[.pointer none, .int .i64 id] w fun e w' => e = .returned (.pointer none) ∧ w' = w := by
  go_enter Try.func36, Try.ntmps36
  go_wp2
  go_ret
  exact ⟨rfl, rfl⟩
/-- A document, by its number. -/
def docAt (S : FlowS) (id : Int) : Option DocS := if id < 1 then none else if id > S.docs.length then none else S.docs[(id - 1).toNat]?
theorem doc_cases {w : World} {F : Nat → Prop} {p : Nat} {S : FlowS} {L : Parts} (h : FlwP w F p S L) (id : Int) :
    (docOf L id = none ∧ docAt S id = none) ∨ (∃ (j : Nat) (b : Nat) (D : DocS) (v : Value), docOf L id = some b ∧ docAt S id = some D ∧ id = (j : Int) + 1 ∧ j < S.docs.length ∧ L.ds[j]? = some b ∧ S.docs[j]? = some D ∧ L.vp[j]? = some v ∧ DocAt w F b D v) := by
  unfold docOf docAt
  rw [h.lend]
  by_cases h1 : id < 1
  · rw [if_pos h1, if_pos h1]
    exact .inl ⟨rfl, rfl⟩
  · rw [if_neg h1, if_neg h1]
    by_cases h2 : id > S.docs.length
    · rw [if_pos h2, if_pos h2]
      exact .inl ⟨rfl, rfl⟩
    · rw [if_neg h2, if_neg h2]
      obtain ⟨j, rfl⟩ : ∃ j : Nat, id = (j : Int) + 1 := ⟨(id - 1).toNat, by omega⟩
      have hj : j < S.docs.length := by omega
      have a1 : L.ds[j]? = some (L.ds[j]'(by rw [h.lend]; exact hj)) := List.getElem?_eq_getElem _
      have a2 : S.docs[j]? = some (S.docs[j]) := List.getElem?_eq_getElem _
      have a3 : L.vp[j]? = some (L.vp[j]'(by rw [h.lenp]; exact hj)) := List.getElem?_eq_getElem _
      rw [show ((j : Int) + 1 - 1).toNat = j by omega]
      exact .inr ⟨j, _, _, _, a1, a2, rfl, hj, a1, a2, a3, h.docs _ _ _ _ a1 a2 a3⟩
theorem doc_none {p : Nat} {S : FlowS} {L : Parts} {F : Nat → Prop} {id : Int} (hid : (Lit.int .i64 id).wf = true) {w : World} (h : FlwP w F p S L) (hd : docOf L id = none) :
    Calls Try.prog 36 #[.pointer (some ⟨p, 0, none⟩), .int .i64 id] w fun e w' => e = .returned (.pointer none) ∧ w' = w := by
  have := doc_calls p S L F id hid w h
  rw [hd] at this
  exact this
theorem doc_some {p : Nat} {S : FlowS} {L : Parts} {F : Nat → Prop} {id : Int} (hid : (Lit.int .i64 id).wf = true) {w : World} {b : Nat} (h : FlwP w F p S L) (hd : docOf L id = some b) :
    Calls Try.prog 36 #[.pointer (some ⟨p, 0, none⟩), .int .i64 id] w fun e w' => e = .returned (.pointer (some ⟨b, 0, none⟩)) ∧ w' = w := by
  have := doc_calls p S L F id hid w h
  rw [hd] at this
  exact this
def stOf (S : FlowS) (id : Int) : Int := match docAt S id with | some D => D.st | none => 0
def auOf (S : FlowS) (id : Int) : ByteArray := match docAt S id with | some D => D.au | none => ⟨#[]⟩
def apOf (S : FlowS) (id : Int) : List ByteArray := match docAt S id with | some D => D.ap | none => []
set_option maxHeartbeats 2000000 in
theorem state_calls (p : Nat) (S : FlowS) (F : Nat → Prop) (id : Int) (hid : (Lit.int .i64 id).wf = true) (w : World) (h : Flw w F p S) :
    Calls Try.prog 15 #[.pointer (some ⟨p, 0, none⟩), .int .i64 id] w fun e w' => e = .returned (.int .i64 (stOf S id)) ∧ w' = w := by
  obtain ⟨L, h⟩ := h
  unfold stOf
  rcases doc_cases h id with ⟨h1, h2⟩ | ⟨j, b, D, v, h1, h2, -, -, -, -, -, hD⟩
  · rw [h2]
    go_enter Try.func15, Try.ntmps15
    go_wp2_with (first | (go_at_call 36; refine (doc_none hid h h1).mono ?_; rintro e w' ⟨rfl, rfl⟩))
    go_ret
    exact ⟨rfl, rfl⟩
  · rw [h2]
    have c2 := (blk_cell hD.blk 2).trans rfl
    go_enter Try.func15, Try.ntmps15
    go_wp2_with (first | (go_at_call 36; refine (doc_some hid h h1).mono ?_; rintro e w' ⟨rfl, rfl⟩))
    go_ret
    exact ⟨rfl, rfl⟩
theorem state_nil (id : Int) (w : World) : Calls Try.prog 15 #[.pointer none, .int .i64 id] w fun e w' => e = .returned (.int .i64 0) ∧ w' = w := by
  go_enter Try.func15, Try.ntmps15
  go_wp2_with (first | (go_at_call 36; refine (doc_nil id _).mono ?_; rintro e w' ⟨rfl, rfl⟩))
  go_ret
  exact ⟨rfl, rfl⟩
set_option maxHeartbeats 2000000 in
theorem author_calls (p : Nat) (S : FlowS) (F : Nat → Prop) (id : Int) (hid : (Lit.int .i64 id).wf = true) (w : World) (h : Flw w F p S) :
    Calls Try.prog 25 #[.pointer (some ⟨p, 0, none⟩), .int .i64 id] w fun e w' => e = .returned (.string (auOf S id)) ∧ w' = w := by
  obtain ⟨L, h⟩ := h
  unfold auOf
  rcases doc_cases h id with ⟨h1, h2⟩ | ⟨j, b, D, v, h1, h2, -, -, -, -, -, hD⟩
  · rw [h2]
    go_enter Try.func25, Try.ntmps25
    go_wp2_with (first | (go_at_call 36; refine (doc_none hid h h1).mono ?_; rintro e w' ⟨rfl, rfl⟩))
    go_ret
    exact ⟨rfl, rfl⟩
  · rw [h2]
    have c0 := (blk_cell hD.blk 0).trans rfl
    go_enter Try.func25, Try.ntmps25
    go_wp2_with (first | (go_at_call 36; refine (doc_some hid h h1).mono ?_; rintro e w' ⟨rfl, rfl⟩))
    go_ret
    exact ⟨rfl, rfl⟩
theorem author_nil (id : Int) (w : World) : Calls Try.prog 25 #[.pointer none, .int .i64 id] w fun e w' => e = .returned (.string ⟨#[]⟩) ∧ w' = w := by
  go_enter Try.func25, Try.ntmps25
  go_wp2_with (first | (go_at_call 36; refine (doc_nil id _).mono ?_; rintro e w' ⟨rfl, rfl⟩))
  go_ret
  exact ⟨rfl, rfl⟩
theorem info55 : (Try.prog.info? 55).map (fun i => (i.zero, i.size, i.bytes)) = some (some (.agg #[.int .i64 0, .int .i64 0, .string ⟨#[]⟩]), 3, 32) := by kernel_rfl
theorem info72 : (Try.prog.info? 72).map (fun i => (i.zero, i.size, i.bytes)) = some (some (.pointer none), 1, 8) := by kernel_rfl
theorem info9 : (Try.prog.info? 9).map (fun i => (i.zero, i.size, i.bytes)) = some (some (.string ⟨#[]⟩), 1, 16) := by kernel_rfl
set_option maxHeartbeats 4000000 in
set_option maxRecDepth 100000 in
theorem note_calls (p : Nat) (S : FlowS) (L : Parts) (F : Nat → Prop) (kind id : Int) (user : ByteArray) (w : World) (h : FlwP w F p S L) (hn : S.acts.length ≤ 1000000) :
    Calls Try.prog 47 #[.pointer (some ⟨p, 0, none⟩), .int .i64 kind, .int .i64 id, .string user] w fun e w' => e = .returned (.tuple #[]) ∧ After F w w' p { S with acts := S.acts ++ [⟨kind, id, user⟩] } := by
  obtain ⟨vs, m, vd, va, ds, vp⟩ := L
  obtain ⟨A, c, e⟩ := Kd.R_slice h.acts
  have e : va = .slice A S.acts.length c := e
  subst e
  have BK : w.heap[p]? = some (.cells #[vs, .map (some m), vd, .slice A S.acts.length c] 67 (0, 0)) := h.blk
  have c3 := (blk_cell BK 3).trans rfl
  have f3 := blk_frozen BK 3
  have HF := Aside0.mk h
  have HBK := Aside0.mk BK
  clear BK h
  go_enter Try.func47, Try.ntmps47
  go_wp2_with (first | ((with_reducible refine gate_builtin (b := .append) (xs := #[.tmp 12, .tmp 17]) rfl ?_); at_builtin; refine Kd.R_append k55 (w0 := w) 0 rfl (.tmp 12) (.tmp 17) 41 55 (.agg #[.int .i64 0, .int .i64 0, .string ⟨#[]⟩]) 32 rfl Try.underlying41 info55 rfl (by decide) (by omega) (.slice A S.acts.length c) S.acts ⟨kind, id, user⟩ [.int .i64 kind, .int .i64 id, .string user] (fun k => F k ∨ w.heap.size ≤ k) (fun _ => False) rfl rfl ?aP (fun _ hk => hk.elim) ?aF ?aO ?aB ?aS ?aL ?_; (case aP => exact k55_mkM _ _ _ _); (case aF => exact fun k hk => .inr hk); (case aO => exact Kd.R_mono HF.out.acts (fun k hk => .inl hk)); (case aB => exact Below.refl _ _); (case aS => exact Nat.zero_le _); (case aL => omega); intro v1 w1 ho hb hg hat; obtain ⟨A1, c1, rfl⟩ := Kd.R_slice ho; have HO := Aside0.mk ho; have HG := Aside0.mk hg; have HB1 := Aside0.mk (blk_grown HBK.out hg (fun e => typed_ne (HF.out.ta e.symm) HF.out.tp (by decide) rfl)); have f3' := blk_frozen HB1.out 3; have c3' := (blk_cell HB1.out 3).trans rfl; clear f3 c3 ho hb hg hat))
  go_end0
  have h := HF.out
  have hg := HG.out
  have hsz : w.heap.size ≤ w1.heap.size := hg.size
  have hpl := h.lt _ h.own
  have hst : ∀ u, (w1.setCell ⟨p, 3, none⟩ u).heap.size = w1.heap.size := fun u => by simp [World.setCell]
  refine ⟨rfl, After.intro (fun k => (F k ∨ w.heap.size ≤ k) ∧ k < w1.heap.size) _ (h.turned_acts (va := .slice A1 (S.acts.length + 1) c1) (al := S.acts ++ [⟨kind, id, user⟩]) (fun k hk => ⟨.inl hk, Nat.lt_of_lt_of_le (h.lt k hk) hsz⟩) (fun k hk hp ha => ?_) (blk_put HB1.out 3 _ rfl) ?_ (fun k hk => by rw [hst]; exact hk.2)) ⟨?_, fun k hk => hk.1⟩⟩
  · rw [Below.heap_setCell _ _ _ _ hp]
    exact hg.block k (h.lt k hk) (fun e => ha e.symm)
  · have h0 := HO.out
    rw [show (S.acts ++ [(⟨kind, id, user⟩ : S55)]).length = S.acts.length + 1 by simp] at h0
    have h1 := Kd.R_bound h0
    exact Kd.R_mono (Kd.R_far (Kd.R_types h1 HB1.out (by decide)) (fun k hk => hk.2) _) (fun k hk => ⟨hk.1.1, hk.1.2.2.1⟩)
  · exact (But.of_grown hg (fun k hk => h.acts.1 k hk)).setCell h.own _
def codeB (a : ByteArray) : Bool := decide (0 < a.size) && (decide (a.size ≤ 12) && allFrom isCodeByte a 0)
theorem code_calls (a : ByteArray) (w : World) : Calls Try.prog 33 #[.string a] w fun e w' => e = .returned (.bool (codeB a)) ∧ Drawn0 w w' := words_Code.calls a _ w rfl
theorem code_is {a : ByteArray} {b : Bool} (h : codeB a = b) (w : World) : Calls Try.prog 33 #[.string a] w fun e w' => e = .returned (.bool b) ∧ Drawn0 w w' := by
  rw [← h]
  exact code_calls a w
theorem FlwP.drewN {w : World} {F : Nat → Prop} {p : Nat} {S : FlowS} {L : Parts} (h : FlwP w F p S L) (n : Nat) : FlwP (w.drewN n) F p S L := h.below (fun _ _ => rfl)
theorem Flw.drewN {w : World} {F : Nat → Prop} {p : Nat} {S : FlowS} (h : Flw w F p S) (n : Nat) : Flw (w.drewN n) F p S := h.keep (fun _ _ => rfl)
theorem Stp.drewN {F G : Nat → Prop} {w w' : World} (h : Stp F G w w') (n : Nat) : Stp F G w (w'.drewN n) := ⟨h.but.drewN n, h.grow⟩
theorem After.drew {F : Nat → Prop} {w : World} {p : Nat} {S : FlowS} (h : Flw w F p S) (n : Nat) : After F w (w.drewN n) p S := ⟨F, h.drewN n, (Stp.refl F w).drewN n⟩
def draftOf (S : FlowS) (user : ByteArray) (vol : Int) : Int × Int × FlowS :=
  if codeB user = false then (0, 7, S) else if vol < 0 then (0, 2, S) else if 10000 ≤ S.docs.length then (0, 9, S)
  else ((S.docs.length : Int) + 1, 0, { S with docs := S.docs ++ [⟨user, vol, 1, []⟩], acts := S.acts ++ [⟨1, (S.docs.length : Int) + 1, user⟩] })
set_option maxHeartbeats 4000000 in
set_option maxRecDepth 100000 in
theorem draft_calls (p : Nat) (S : FlowS) (F : Nat → Prop) (user : ByteArray) (vol : Int) (w : World) (h : Flw w F p S) (hn : S.acts.length ≤ 1000000) :
    Calls Try.prog 28 #[.pointer (some ⟨p, 0, none⟩), .string user, .int .i64 vol] w fun e w' => e = .returned (.tuple #[.int .i64 (draftOf S user vol).1, .int .i64 (draftOf S user vol).2.1]) ∧ After F w w' p (draftOf S user vol).2.2 := by
  have HFl := Aside0.mk h
  unfold draftOf
  cases hc : codeB user
  · rw [if_pos rfl]
    have HC := Aside0.mk hc
    clear hc h
    go_enter Try.func28, Try.ntmps28
    go_wp2_with (first | (go_at_call 33; refine (code_is HC.out _).mono ?_; rintro e w' ⟨rfl, ⟨nd, rfl⟩⟩))
    go_ret2
    exact ⟨rfl, After.drew HFl.out _⟩
  rw [if_neg (by simp)]
  have HC := Aside0.mk hc
  clear hc
  by_cases hv : vol < 0
  · rw [if_pos hv]
    have hd : decide (vol < 0) = true := decide_eq_true hv
    clear h
    go_enter Try.func28, Try.ntmps28
    go_wp2_with (first | (go_at_call 33; refine (code_is HC.out _).mono ?_; rintro e w' ⟨rfl, ⟨nd, rfl⟩⟩))
    go_ret2
    exact ⟨rfl, After.drew HFl.out _⟩
  rw [if_neg hv]
  have hd : decide (vol < 0) = false := decide_eq_false hv
  obtain ⟨⟨vs, m, vd, va, ds, vp⟩, h⟩ := h
  obtain ⟨A, c, e⟩ := Kd.R_slice h.rowd
  have e : vd = .slice A ds.length c := e
  subst e
  have hl : ds.length = S.docs.length := h.lend
  have BK : w.heap[p]? = some (.cells #[vs, .map (some m), .slice A ds.length c, va] 67 (0, 0)) := h.blk
  have HF := Aside0.mk h
  have HBK := Aside0.mk BK
  have HL := Aside0.mk hl
  clear h hl
  by_cases hm : 10000 ≤ S.docs.length
  · rw [if_pos hm]
    have c2 := (fun n => (blk_cell (blk_drewN BK n) 2).trans rfl)
    have hd2 : decide ((10000 : Int) ≤ (ds.length : Int)) = true := decide_eq_true (by rw [HL.out]; omega)
    clear BK
    go_enter Try.func28, Try.ntmps28
    go_wp2_with (first | (go_at_call 33; refine (code_is HC.out _).mono ?_; rintro e w' ⟨rfl, ⟨nd, rfl⟩⟩; have c2' := c2 nd))
    go_ret2
    exact ⟨rfl, After.drew HFl.out _⟩
  · rw [if_neg hm]
    have hd2 : decide ((10000 : Int) ≤ (ds.length : Int)) = false := decide_eq_false (by rw [HL.out]; omega)
    have c2 := (fun n => (blk_cell (blk_drewN BK n) 2).trans rfl)
    clear BK
    go_enter Try.func28, Try.ntmps28
    go_upto_region 9 with (first | (go_at_call 33; refine (code_is HC.out _).mono ?_; rintro e w' ⟨rfl, ⟨nd, rfl⟩⟩; have c2' := c2 nd))
    clear c2 c2' e
    refine with_world (P := fun x => Code.wp _ _ _ _ x) _ ?_
    intro w1 hw1
    have HF1 := Aside0.mk (show FlwP w1 F p S ⟨vs, m, .slice A ds.length c, va, ds, vp⟩ from hw1 ▸ HF.out.drewN nd)
    have HS1 := Aside0.mk (show Stp F F w w1 from hw1 ▸ (Stp.refl F w).drewN nd)
    have BK1 : w1.heap[p]? = some (.cells #[vs, .map (some m), .slice A ds.length c, va] 67 (0, 0)) := HF1.out.blk
    clear hw1 HFl HF HBK
    have c2 := (blk_cell BK1 2).trans rfl
    have HBK := Aside0.mk BK1
    clear BK1
    go_upto_region 10 with (first | ((with_reducible refine gate_dst (N := 33) rfl ?_); refine box_event ?hg (N := 33) ?hd (cs := #[.string user, .int .i64 vol, .int .i64 1, .slice none 0 0]) (t := 75) ?hr ?_; (case hd => rfl); (case hg => rfl); (case hr => first | (go_simp; done) | (go_simp; rfl)); intro b hb w2 hbox hbb; have HF2 := Aside0.mk (HF1.out.below (fun k hk => hbb.block k (HF1.out.lt k hk))); have HN2 := Aside0.mk (show ∀ k, F k → k < b from fun k hk => hb ▸ HF1.out.lt k hk); have HBX := Aside0.mk hbox; have HB12 := Aside0.mk hbb; have HBE := Aside0.mk hb; have c2b := (hbb.cell (World.block_lt_of_cell? w1 _ c2)).trans c2; clear c2 hb hbox hbb) | ((with_reducible refine gate_builtin (b := .append) (xs := #[.tmp 29, .tmp 34]) rfl ?_); at_builtin; refine Kd.R_append kP (w0 := w2) 0 rfl (.tmp 29) (.tmp 34) 65 72 (.pointer none) 8 rfl Try.underlying65 info72 rfl (by decide) (by omega) (.slice A ds.length c) ds b [.pointer (some ⟨b, 0, none⟩)] (fun k => F k ∨ b < k) (fun _ => False) rfl rfl ?aP (fun _ hk => hk.elim) ?aF ?aO ?aB ?aS ?aL ?_; (case aP => exact rfl); (case aF => exact fun k hk => .inr (Nat.lt_of_lt_of_le (blk_lt HBX.out) hk)); (case aO => exact Kd.R_mono HF2.out.rowd (fun k hk => .inl hk)); (case aB => exact Below.refl _ _); (case aS => exact Nat.zero_le _); (case aL => have := HL.out; omega); intro v1 w3 ho hb hg hat; obtain ⟨A1, c1, rfl⟩ := Kd.R_slice ho; have HO := Aside0.mk ho; have HG := Aside0.mk hg; have HB1 := Aside0.mk (blk_grown HF2.out.blk hg (fun e => typed_ne (HF2.out.td e.symm) HF2.out.tp (by decide) rfl)); have HD1 := Aside0.mk (blk_grown HBX.out hg (fun e => by have := HN2.out _ (HF2.out.rowd.1 _ e.symm); omega)); have f2' := blk_frozen HB1.out 2; have c2' := (blk_cell HB1.out 2).trans rfl; clear c2b ho hb hg hat))
    refine with_world (P := fun x => Code.wp _ _ _ _ x) _ ?_
    intro w4 hw4
    have h := HF2.out
    have hg := HG.out
    have hsz : w2.heap.size ≤ w3.heap.size := hg.size
    have hst : w4.heap.size = w3.heap.size := by rw [hw4]; simp [World.setCell]
    have hbl : b < w3.heap.size := blk_lt HD1.out
    have hbp : b ≠ p := by have := HN2.out p h.own; omega
    have h0 := HO.out
    rw [show (ds ++ [b]).length = ds.length + 1 by simp] at h0
    have HF4 := Aside0.mk (show FlwP w4 (fun k => (F k ∨ b ≤ k) ∧ k < w3.heap.size) p { S with docs := S.docs ++ [⟨user, vol, 1, []⟩] } { vs := vs, m := m, vd := .slice A1 (ds.length + 1) c1, va := va, ds := ds ++ [b], vp := vp ++ [.slice none 0 0] } from by
      rw [hw4]
      refine h.turned_docs (fun k hk => ⟨.inl hk, Nat.lt_of_lt_of_le (h.lt k hk) hsz⟩) (fun k hk hp ha => ?_) (blk_put HB1.out 2 _ rfl) ?_ ⟨?_, ⟨.inr (Nat.le_refl _), hbl⟩, Kd.R_nil _ _ _ _ _⟩ (fun x hx => ?_) (fun u _ k _ hk => by cases hk) (fun k hk => by rw [← hw4, hst]; exact hk.2)
      · rw [Below.heap_setCell _ _ _ _ hp]
        exact hg.block k (h.lt k hk) (fun e => ha e.symm)
      · exact Kd.R_mono (Kd.R_far (Kd.R_types (Kd.R_bound h0) HB1.out (by decide)) (fun k hk => hk.2) _) (fun k hk => ⟨hk.1.1.imp (fun h => h) (fun h => Nat.le_of_lt h), hk.1.2.2.1⟩)
      · exact (Below.heap_setCell _ _ _ _ hbp).trans HD1.out
      · have := HN2.out x (h.ds_own hx)
        omega)
    have HS4 := Aside0.mk (show Stp F (fun k => (F k ∨ b ≤ k) ∧ k < w3.heap.size) w w4 from by
      refine HS1.out.trans ⟨?_, fun k hk => hk.1.imp (fun h => h) (fun h => by rw [HBE.out] at h; exact h)⟩
      rw [hw4]
      exact ((But.of_below HB12.out F).trans (But.of_grown hg (fun k hk => h.rowd.1 k hk))).setCell h.own _)
    clear hw4 h hg hsz hst hbl hbp h0 HS1 HF1 HF2 HN2 HBX HB12 HBE HO HG HB1 HD1 HBK
    have BK4 := HF4.out.blk
    have c4 := (blk_cell BK4 2).trans rfl
    clear BK4
    go_wp2_with (first | (go_at_call 47; refine (note_calls p _ _ _ 1 _ user _ HF4.out hn).mono ?_; rintro e w' ⟨rfl, G2, ⟨L2, h2⟩, hs2⟩; obtain ⟨A2, c2, e2⟩ := Kd.R_slice h2.rowd; have BK5 := h2.blk; rw [e2] at BK5; have c5 := (blk_cell BK5 2).trans rfl; have HL2 := Aside0.mk h2.lend; have HF5 := Aside0.mk h2; have HS5 := Aside0.mk hs2; clear BK5 e2 h2 hs2 c4))
    go_ret2
    have hl2 : L2.ds.length = S.docs.length + 1 := by rw [HL2.out]; simp
    refine ⟨by rw [hl2]; push_cast; rfl, ?_⟩
    have HA := After.then HS4.out ⟨G2, ⟨L2, HF5.out⟩, HS5.out⟩
    rw [HL.out] at HA
    exact HA
theorem draft_nil (user : ByteArray) (vol : Int) (w : World) : Calls Try.prog 28 #[.pointer none, .string user, .int .i64 vol] w fun e w' => e = .returned (.tuple #[.int .i64 0, .int .i64 1]) ∧ w' = w := by
  go_enter Try.func28, Try.ntmps28
  go_wp2
  go_ret2
  exact ⟨rfl, rfl⟩
def permB (S : FlowS) (au : ByteArray) (who : Int) (user : ByteArray) : Bool :=
  if who = 0 then user.toList == au.toList else if who = 1 then hasB S.appr user && !(user.toList == au.toList) else (user.toList == au.toList) || hasB S.appr user
set_option maxHeartbeats 4000000 in
set_option maxRecDepth 100000 in
theorem permitted_calls (p b : Nat) (S : FlowS) (L : Parts) (F : Nat → Prop) (who : Int) (user : ByteArray) (hu : user.size ≤ maxLen) (D : DocS) (v : Value) (w : World) (h : FlwP w F p S L) (hD : DocAt w F b D v) :
    Calls Try.prog 60 #[.pointer (some ⟨p, 0, none⟩), .pointer (some ⟨b, 0, none⟩), .int .i64 who, .string user] w fun e w' => e = .returned (.bool (permB S D.au who user)) ∧ Drawn0 w w' := by
  have c1 := (blk_cell h.blk 1).trans rfl
  have c0 := (blk_cell hD.blk 0).trans rfl
  obtain ⟨es, cl, hm, hlook⟩ := h.who
  have hl1 : ∀ n, (Instr.lookup 64 (.map (some L.m)) (.string user) false).run Try.prog (w.drewN n) = .ok (.bool (hasB S.appr user)) (w.drewN n) := fun n => hlook _ _ hm hu
  have hl0 : (Instr.lookup 64 (.map (some L.m)) (.string user) false).run Try.prog w = .ok (.bool (hasB S.appr user)) w := hlook _ _ hm hu
  unfold permB
  obtain ⟨ap, hap⟩ : ∃ ap, hasB S.appr user = ap := ⟨_, rfl⟩
  obtain ⟨ia, hia⟩ : ∃ ia, (user.toList == D.au.toList) = ia := ⟨_, rfl⟩
  rw [hap] at hl1 hl0 ⊢
  rw [hia]
  clear hap hm hlook
  by_cases h0 : who = 0
  · subst h0
    go_enter Try.func60, Try.ntmps60
    go_wp2
    go_quiet (fail)
    go_wp2
    go_ret
    exact ⟨rfl, by repeat (first | exact Drawn0.refl _ | apply Drawn0.step)⟩
  rw [if_neg h0]
  have d0 : (who == (0 : Int)) = false := beq_eq_false_iff_ne.mpr h0
  by_cases h1 : who = 1
  · subst h1
    clear d0 h0
    cases ap
    · go_enter Try.func60, Try.ntmps60
      go_wp2
      go_quiet (fail)
      go_wp2
      go_ret
      exact ⟨by simp, by repeat (first | exact Drawn0.refl _ | apply Drawn0.step)⟩
    · go_enter Try.func60, Try.ntmps60
      go_wp2
      go_quiet (fail)
      go_wp2
      go_ret
      exact ⟨by simp, by repeat (first | exact Drawn0.refl _ | apply Drawn0.step)⟩
  rw [if_neg h1]
  have d1 : (who == (1 : Int)) = false := beq_eq_false_iff_ne.mpr h1
  cases ia
  · go_enter Try.func60, Try.ntmps60
    go_wp2
    go_quiet (fail)
    go_wp2
    go_ret
    exact ⟨by simp, by repeat (first | exact Drawn0.refl _ | apply Drawn0.step)⟩
  · go_enter Try.func60, Try.ntmps60
    go_wp2
    go_quiet (fail)
    go_wp2
    go_ret
    exact ⟨by simp, by repeat (first | exact Drawn0.refl _ | apply Drawn0.step)⟩
/-- What find answers, by its number. -/
def findOf (S : FlowS) (id : Int) (user : ByteArray) (who : Int) (sts : List Int) : Int :=
  match docAt S id with
  | none => 1
  | some D => if codeB user = false then 7 else if sts.contains D.st = false then 18 else if permB S D.au who user = true then 0 else 19
/-- What find points to, where it answers r. -/
def findPtr (L : Parts) (id r : Int) : Value := ptrOf (if r = 0 then docOf L id else none)
theorem code_size {a : ByteArray} (h : codeB a = true) : a.size ≤ maxLen := by
  unfold codeB at h
  rw [Bool.and_eq_true, Bool.and_eq_true] at h
  have := of_decide_eq_true h.2.1
  unfold maxLen
  omega
set_option maxHeartbeats 4000000 in
set_option maxRecDepth 100000 in
theorem find_calls (p : Nat) (S : FlowS) (L : Parts) (F : Nat → Prop) (id : Int) (hid : (Lit.int .i64 id).wf = true) (user : ByteArray) (who : Int) (A : Option Addr) (c : Nat) (sts : List Int) (hl : sts.length ≤ 1000) (r : Int) (hr : findOf S id user who sts = r) (w : World) (h : FlwP w F p S L) (hs : (Kd.int .i64).C w A sts.length sts) :
    Calls Try.prog 48 #[.pointer (some ⟨p, 0, none⟩), .int .i64 id, .string user, .int .i64 who, .slice A sts.length c] w fun e w' => e = .returned (.tuple #[findPtr L id r, .int .i64 r]) ∧ Drawn0 w w' := by
  unfold findOf at hr
  rcases doc_cases h id with ⟨h1, h2⟩ | ⟨j, b, D, v, h1, h2, -, -, -, -, -, hD⟩
  · rw [h2] at hr
    have hr : (1 : Int) = r := hr
    subst hr
    go_enter Try.func48, Try.ntmps48
    go_wp2_with (first | (go_at_call 36; refine (doc_none hid h h1).mono ?_; rintro e w' ⟨rfl, he_⟩; obtain rfl := he_.symm))
    go_ret2
    exact ⟨rfl, by repeat (first | exact Drawn0.refl _ | apply Drawn0.step)⟩
  rw [h2] at hr
  have hr : (if codeB user = false then (7 : Int) else if sts.contains D.st = false then 18 else if permB S D.au who user = true then 0 else 19) = r := hr
  cases hc : codeB user
  · rw [hc, if_pos rfl] at hr
    subst hr
    have HC := Aside0.mk hc
    clear hc
    go_enter Try.func48, Try.ntmps48
    go_wp2_with (first | (go_at_call 36; refine (doc_some hid h h1).mono ?_; rintro e w' ⟨rfl, he_⟩; obtain rfl := he_.symm) | (go_at_call 33; refine (code_is HC.out _).mono ?_; rintro e w' ⟨rfl, ⟨nd, rfl⟩⟩))
    go_ret2
    exact ⟨rfl, by repeat (first | exact Drawn0.refl _ | apply Drawn0.step)⟩
  rw [hc, if_neg (by simp)] at hr
  have hu := code_size hc
  have HC := Aside0.mk hc
  clear hc
  obtain ⟨pm, hpm⟩ : ∃ pm, permB S D.au who user = pm := ⟨_, rfl⟩
  rw [hpm] at hr
  have HPM := Aside0.mk hpm
  obtain ⟨ct, hct⟩ : ∃ ct, sts.contains D.st = ct := ⟨_, rfl⟩
  rw [hct] at hr
  have HCT := Aside0.mk hct
  have HP := Aside0.mk h
  have HDC := Aside0.mk hD
  have HS := Aside0.mk hs
  have H1 := Aside0.mk h1
  have HR := Aside0.mk hr
  clear hpm hct h2 hs hD hr
  go_enter Try.func48, Try.ntmps48
  go_wp2_with (first | (go_at_call 36; refine (doc_some hid h h1).mono ?_; rintro e w' ⟨rfl, he_⟩; obtain rfl := he_.symm) | (go_at_call 33; refine (code_is HC.out _).mono ?_; rintro e w' ⟨rfl, ⟨nd, rfl⟩⟩; clear h h1))
  go_loopw [14, 25, 26, 27, 28, 29, 30, 31, 32, 33, 34, 35, 36, 37, 38, 39, 40, 42] (fun _ v25 _ _ _ _ _ _ _ _ _ _ _ _ _ _ _ _ wr => ∃ k : Nat, k ≤ sts.length ∧ v25 = .int .i64 k ∧ Drawn0 w wr ∧ Aside0 (∀ x ∈ sts.take k, x ≠ D.st)) (fun _ v25 _ _ _ _ _ _ _ _ _ _ _ _ _ _ _ _ _ => sts.length - (intOf v25).toNat)
  case atStart => exact ⟨0, Nat.zero_le _, rfl, by repeat (first | exact Drawn0.refl _ | apply Drawn0.step), ⟨fun x hx => by simp at hx⟩⟩
  case round =>
    obtain ⟨k, hk, rfl, ⟨n, rfl⟩, HN⟩ := hrel
    by_cases hlt : k < sts.length
    · obtain ⟨ad, e, q0⟩ := Kd.at_int (Kd.C_drewN HS.out n) (k : Int) (by omega) (by omega)
      subst e
      rw [Int.toNat_natCast] at q0
      have d1 : decide ((k : Int) < (sts.length : Int)) = true := decide_eq_true (by omega)
      have d2 : decide (k < sts.length) = true := decide_eq_true hlt
      have p0 : (0 : Int) ≤ (k : Int) := by omega
      have p1 : (k : Int) < (sts.length : Int) := by omega
      have HK := Aside0.mk (show Go.Proofs.YtbbhichndfbooaaW.PrintWords.rd sts (k : Int) = sts[k] by simp [Go.Proofs.YtbbhichndfbooaaW.PrintWords.rd, hlt])
      have c2 := (blk_cell (blk_drewN HDC.out.blk n) 2).trans rfl
      obtain ⟨s, hs⟩ : ∃ s, Go.Proofs.YtbbhichndfbooaaW.PrintWords.rd sts (k : Int) = s := ⟨_, rfl⟩
      rw [hs] at q0 HK
      clear hs
      by_cases he : D.st = s
      · subst he
        have HT := Aside0.mk (show ct = true by rw [← HCT.out, List.contains_iff_mem, HK.out]; exact List.getElem_mem _)
        cases pm
        · go_wp2_with (first | (go_at_call 60; refine (permitted_calls p b S L F who user hu D v _ (HP.out.drewN _) (HDC.out.move (fun _ hk => hk) rfl (fun _ _ => rfl))).mono ?_; rw [HPM.out]; rintro e w' ⟨rfl, ⟨nd2, rfl⟩⟩))
          go_ret2
          have hr := HR.out
          rw [HT.out] at hr
          have hr : (19 : Int) = r := hr
          exact ⟨by rw [← hr]; rfl, by repeat (first | exact Drawn0.refl _ | apply Drawn0.step)⟩
        · go_wp2_with (first | (go_at_call 60; refine (permitted_calls p b S L F who user hu D v _ (HP.out.drewN _) (HDC.out.move (fun _ hk => hk) rfl (fun _ _ => rfl))).mono ?_; rw [HPM.out]; rintro e w' ⟨rfl, ⟨nd2, rfl⟩⟩))
          go_ret2
          have hr := HR.out
          rw [HT.out] at hr
          have hr : (0 : Int) = r := hr
          exact ⟨by rw [← hr]; unfold findPtr; rw [if_pos rfl, H1.out]; rfl, by repeat (first | exact Drawn0.refl _ | apply Drawn0.step)⟩
      · have hb : (D.st != s) = true := bne_iff_ne.mpr he
        have HE := Aside0.mk he
        clear he
        go_wp2
        go_roundw
        case rel =>
          refine ⟨k + 1, by omega, by go_num, by repeat (first | exact Drawn0.refl _ | apply Drawn0.step), ⟨fun x hx => ?_⟩⟩
          rw [List.take_add_one, List.getElem?_eq_getElem hlt, List.mem_append] at hx
          rcases hx with hx | hx
          · exact HN.out x hx
          · simp at hx
            rw [hx, ← HK.out]
            exact fun e => HE.out e.symm
        case measure => simp [intOf]; omega
    · obtain rfl : k = sts.length := by omega
      have d1 : decide ((sts.length : Int) < (sts.length : Int)) = false := decide_eq_false (by omega)
      go_wp2
      go_ret2
      have hf : ct = false := by
        rw [← HCT.out, ← Bool.not_eq_true, List.contains_iff_mem]
        intro hm
        exact HN.out _ (by rw [List.take_length]; exact hm) rfl
      have hr := HR.out
      rw [hf] at hr
      have hr : (18 : Int) = r := hr
      exact ⟨by rw [← hr]; rfl, by repeat (first | exact Drawn0.refl _ | apply Drawn0.step)⟩
/-- The state that settle lays. -/
def settled (n : Nat) (need : Int) : Int := if (n : Int) ≥ need then 3 else 2
set_option maxHeartbeats 4000000 in
set_option maxRecDepth 100000 in
theorem settle_calls (b : Nat) (x y s : Value) (A : Option Addr) (n c : Nat) (need : Int) (w : World) (h : w.heap[b]? = some (.cells #[x, y, s, .slice A n c] 75 (0, 0))) :
    Calls Try.prog 49 #[.pointer (some ⟨b, 0, none⟩), .int .i64 need] w fun e w' => e = .returned (.tuple #[]) ∧ w'.heap[b]? = some (.cells #[x, y, .int .i64 (settled n need), .slice A n c] 75 (0, 0)) ∧ But (fun k => k = b) w w' := by
  have c2 := (blk_cell h 2).trans rfl
  have f2 := blk_frozen h 2
  have H := Aside0.mk h
  clear h
  go_enter Try.func49, Try.ntmps49
  go_upto_region 1 with (fail)
  refine with_world (P := fun x => Code.wp _ _ _ _ x) _ ?_
  intro w1 hw1
  have H1 := Aside0.mk (show w1.heap[b]? = some (.cells #[x, y, .int .i64 2, .slice A n c] 75 (0, 0)) from by rw [hw1]; exact blk_put H.out 2 _ rfl)
  have B1 := Aside0.mk (show But (fun k => k = b) w w1 from by rw [hw1]; exact (But.refl (fun k => k = b) w).setCell (by exact rfl) _)
  clear hw1 c2 f2 H
  have c3 := (blk_cell H1.out 3).trans rfl
  have c2 := (blk_cell H1.out 2).trans rfl
  have f2 := blk_frozen H1.out 2
  by_cases hn : (n : Int) ≥ need
  · have hs := Aside0.mk (show settled n need = 3 from if_pos hn)
    have d : decide (need ≤ (n : Int)) = true := decide_eq_true hn
    clear hn
    go_wp2
    go_end0
    rw [hs.out]
    exact ⟨rfl, blk_put H1.out 2 _ rfl, B1.out.setCell (by exact rfl) _⟩
  · have hs := Aside0.mk (show settled n need = 2 from if_neg hn)
    have d : decide (need ≤ (n : Int)) = false := decide_eq_false hn
    clear hn
    go_wp2
    go_end0
    rw [hs.out]
    exact ⟨rfl, H1.out, B1.out⟩
/-- The workflow with another document at a number, and an act more. -/
def actedS (S : FlowS) (kind id : Int) (user : ByteArray) (D : DocS) : FlowS := { S with docs := S.docs.set (id - 1).toNat D, acts := S.acts ++ [⟨kind, id, user⟩] }
def docD (S : FlowS) (id : Int) : DocS := (docAt S id).getD ⟨⟨#[]⟩, 0, 0, []⟩
def moveOf (S : FlowS) (kind id : Int) (user : ByteArray) (who st : Int) (sts : List Int) : Int × FlowS :=
  if findOf S id user who sts = 0 then (0, actedS S kind id user { docD S id with st := st }) else (findOf S id user who sts, S)
theorem find_zero {S : FlowS} {id : Int} {user : ByteArray} {who : Int} {sts : List Int} (h : findOf S id user who sts = 0) : ∃ D, docAt S id = some D ∧ codeB user = true ∧ sts.contains D.st = true ∧ permB S D.au who user = true := by
  unfold findOf at h
  cases hd : docAt S id with
  | none =>
    rw [hd] at h
    have h : (1 : Int) = 0 := h
    exact absurd h (by decide)
  | some D =>
    rw [hd] at h
    have h : (if codeB user = false then (7 : Int) else if sts.contains D.st = false then 18 else if permB S D.au who user = true then 0 else 19) = 0 := h
    refine ⟨D, rfl, ?_, ?_, ?_⟩
    · cases hc : codeB user
      · rw [hc, if_pos rfl] at h; exact absurd h (by decide)
      · rfl
    · cases hc : codeB user
      · rw [hc, if_pos rfl] at h; exact absurd h (by decide)
      · rw [hc, if_neg (by decide)] at h
        cases hs : sts.contains D.st
        · rw [hs, if_pos rfl] at h; exact absurd h (by decide)
        · rfl
    · cases hc : codeB user
      · rw [hc, if_pos rfl] at h; exact absurd h (by decide)
      · rw [hc, if_neg (by decide)] at h
        cases hs : sts.contains D.st
        · rw [hs, if_pos rfl] at h; exact absurd h (by decide)
        · rw [hs, if_neg (by decide)] at h
          cases hp : permB S D.au who user
          · rw [hp, if_neg (by decide)] at h; exact absurd h (by decide)
          · rfl
/-- Where find answers 0: the document, its block and its slice. -/
theorem find_there {w : World} {F : Nat → Prop} {p : Nat} {S : FlowS} {L : Parts} (h : FlwP w F p S L) {id : Int} {user : ByteArray} {who : Int} {sts : List Int} (h0 : findOf S id user who sts = 0) :
    ∃ (b : Nat) (v : Value), docOf L id = some b ∧ findPtr L id 0 = .pointer (some ⟨b, 0, none⟩) ∧ L.ds[(id - 1).toNat]? = some b ∧ S.docs[(id - 1).toNat]? = some (docD S id) ∧ L.vp[(id - 1).toNat]? = some v ∧ DocAt w F b (docD S id) v := by
  obtain ⟨D, hd, _⟩ := find_zero h0
  rcases doc_cases h id with ⟨_, h2⟩ | ⟨j, b, E, v, h1, h2, hj, _, a1, a2, a3, hD⟩
  · rw [hd] at h2; cases h2
  · rw [hd] at h2
    obtain rfl := Option.some.inj h2
    have e : docD S id = D := by unfold docD; rw [hd]; rfl
    rw [e, show (id - 1).toNat = j by omega]
    exact ⟨b, v, h1, by unfold findPtr; rw [if_pos rfl, h1]; rfl, a1, a2, a3, hD⟩
set_option maxHeartbeats 4000000 in
set_option maxRecDepth 100000 in
theorem move_calls (p : Nat) (S : FlowS) (F : Nat → Prop) (kind id : Int) (hid : (Lit.int .i64 id).wf = true) (user : ByteArray) (who st : Int) (A : Option Addr) (c : Nat) (sts : List Int) (hl : sts.length ≤ 1000) (w : World) (h : Flw w F p S) (hs : (Kd.int .i64).C w A sts.length sts) (hn : S.acts.length ≤ 1000000) :
    Calls Try.prog 50 #[.pointer (some ⟨p, 0, none⟩), .int .i64 kind, .int .i64 id, .string user, .int .i64 who, .int .i64 st, .slice A sts.length c] w fun e w' => e = .returned (.int .i64 (moveOf S kind id user who st sts).1) ∧ After F w w' p (moveOf S kind id user who st sts).2 := by
  have HFl := Aside0.mk h
  obtain ⟨L, h⟩ := h
  have HP := Aside0.mk h
  have HS := Aside0.mk hs
  unfold moveOf
  obtain ⟨r, hr⟩ : ∃ r, findOf S id user who sts = r := ⟨_, rfl⟩
  by_cases h0 : r = 0
  · subst h0
    rw [if_pos hr]
    obtain ⟨b, v, -, hp, a1, a2, a3, hD⟩ := find_there h hr
    have HA1 := Aside0.mk a1
    have HA2 := Aside0.mk a2
    have HA3 := Aside0.mk a3
    have HD := Aside0.mk hD
    have HPT := Aside0.mk hp
    have HR := Aside0.mk hr
    clear h hs hr hp a1 a2 a3 hD
    go_enter Try.func50, Try.ntmps50
    go_upto_region 5 with (first | (go_at_call 48; refine (find_calls p S L F id hid user who A c sts hl 0 HR.out _ HP.out HS.out).mono ?_; rw [HPT.out]; rintro e w' ⟨rfl, ⟨nd, rfl⟩⟩; have c2 := (blk_cell (blk_drewN HD.out.blk nd) 2).trans rfl; have f2 := blk_frozen (blk_drewN HD.out.blk nd) 2))
    refine with_world (P := fun x => Code.wp _ _ _ _ x) _ ?_
    intro w1 hw1
    have hbF := HD.out.own
    have HF1 := Aside0.mk (show FlwP w1 F p { S with docs := S.docs.set (id - 1).toNat { docD S id with st := st } } { L with vp := L.vp.set (id - 1).toNat v } from by
      rw [hw1]
      refine HP.out.turned_doc HA1.out HA2.out HA3.out (fun _ hk => hk) (fun k hk hb _ => (Below.heap_setCell _ _ _ _ hb).trans rfl) ⟨?_, hbF, ?_⟩ (fun k hk => .inl hk) (fun k hk => ?_)
      · exact blk_put (blk_drewN HD.out.blk nd) 2 _ rfl
      · refine row_over rfl HD.out.row (fun _ hk => hk) (fun k hk => ?_)
        exact (Below.heap_setCell _ _ _ _ (by exact typed_ne (HD.out.tv hk) HD.out.tb (by decide))).trans rfl
      · have := HP.out.lt k hk
        simpa [World.setCell] using this)
    have HS1 := Aside0.mk (show Stp F F w w1 from by
      rw [hw1]
      exact ⟨((But.refl F w).drewN nd).setCell (by exact hbF) _, fun _ hk => .inl hk⟩)
    clear hw1 c2 f2 hbF
    go_wp2_with (first | (go_at_call 47; refine (note_calls p _ _ _ kind id user _ HF1.out hn).mono ?_; rintro e w' ⟨rfl, ha⟩; have HAF := Aside0.mk ha; clear ha))
    go_ret
    exact ⟨rfl, After.then HS1.out HAF.out⟩
  · rw [hr, if_neg h0]
    have hp : findPtr L id r = .pointer none := by unfold findPtr; rw [if_neg h0]; rfl
    have hb : (r != 0) = true := bne_iff_ne.mpr h0
    have HPT := Aside0.mk hp
    have HR := Aside0.mk hr
    clear h hs hr hp h0
    go_enter Try.func50, Try.ntmps50
    go_wp2_with (first | (go_at_call 48; refine (find_calls p S L F id hid user who A c sts hl r HR.out _ HP.out HS.out).mono ?_; rw [HPT.out]; rintro e w' ⟨rfl, ⟨nd, rfl⟩⟩))
    go_ret
    exact ⟨rfl, After.drew HFl.out _⟩
theorem lit_C (W : World) (xs : List Int) (hm : xs.length ≤ 9223372036854775807) : (Kd.int .i64).C (W.alloc (.cells (nums .i64 xs).toArray 3)) (some ⟨W.heap.size, 0, none⟩) xs.length xs :=
  (Kd.R_reads' (Kd.R_of_own (own_lit W 0 3 .i64 xs (Nat.zero_le _) hm) (ok := fun _ => True) (fun _ _ => trivial))).2.2
theorem Flw.alloc {w : World} {F : Nat → Prop} {p : Nat} {S : FlowS} (h : Flw w F p S) (o : Obj) : Flw (w.alloc o) F p S := h.below (below_alloc (Below.refl _ _) o)
theorem Stp.alloc {F G : Nat → Prop} {w w' : World} (h : Stp F G w w') (o : Obj) : Stp F G w (w'.alloc o) := ⟨h.but.alloc o, h.grow⟩
theorem after_alloc {F : Nat → Prop} {w w' : World} {p : Nat} {S : FlowS} {o : Obj} (h : After F (w.alloc o) w' p S) : After F w w' p S := After.then ((Stp.refl F w).alloc o) h
/-- The acts that move and nothing else. -/
def rejectOf (S : FlowS) (id : Int) (user : ByteArray) : Int × FlowS := moveOf S 4 id user 1 4 [2]
def cancelOf (S : FlowS) (id : Int) (user : ByteArray) : Int × FlowS := moveOf S 6 id user 0 6 [1, 4]
def postOf (S : FlowS) (id : Int) (user : ByteArray) : Int × FlowS := moveOf S 7 id user 2 5 [3]
set_option maxHeartbeats 2000000 in
theorem reject_calls (p : Nat) (S : FlowS) (F : Nat → Prop) (id : Int) (hid : (Lit.int .i64 id).wf = true) (user : ByteArray) (w : World) (h : Flw w F p S) (hn : S.acts.length ≤ 1000000) :
    Calls Try.prog 57 #[.pointer (some ⟨p, 0, none⟩), .int .i64 id, .string user] w fun e w' => e = .returned (.int .i64 (rejectOf S id user).1) ∧ After F w w' p (rejectOf S id user).2 := by
  have HF := Aside0.mk h
  clear h
  go_enter Try.func57, Try.ntmps57
  go_wp2_with (first | (go_at_call 50; refine (move_calls p S F 4 id hid user 1 4 (some ⟨w.heap.size, 0, none⟩) 1 [2] (by decide) _ (HF.out.alloc _) (lit_C w [2] (by decide)) hn).mono ?_; rintro e w' ⟨rfl, ha⟩; have HA := Aside0.mk ha; clear ha))
  go_ret
  exact ⟨rfl, after_alloc HA.out⟩
set_option maxHeartbeats 2000000 in
theorem cancel_calls (p : Nat) (S : FlowS) (F : Nat → Prop) (id : Int) (hid : (Lit.int .i64 id).wf = true) (user : ByteArray) (w : World) (h : Flw w F p S) (hn : S.acts.length ≤ 1000000) :
    Calls Try.prog 59 #[.pointer (some ⟨p, 0, none⟩), .int .i64 id, .string user] w fun e w' => e = .returned (.int .i64 (cancelOf S id user).1) ∧ After F w w' p (cancelOf S id user).2 := by
  have HF := Aside0.mk h
  clear h
  go_enter Try.func59, Try.ntmps59
  go_wp2_with (first | (go_at_call 50; refine (move_calls p S F 6 id hid user 0 6 (some ⟨w.heap.size, 0, none⟩) 2 [1, 4] (by decide) _ (HF.out.alloc _) (lit_C w [1, 4] (by decide)) hn).mono ?_; rintro e w' ⟨rfl, ha⟩; have HA := Aside0.mk ha; clear ha))
  go_ret
  exact ⟨rfl, after_alloc HA.out⟩
set_option maxHeartbeats 2000000 in
theorem post_calls (p : Nat) (S : FlowS) (F : Nat → Prop) (id : Int) (hid : (Lit.int .i64 id).wf = true) (user : ByteArray) (w : World) (h : Flw w F p S) (hn : S.acts.length ≤ 1000000) :
    Calls Try.prog 31 #[.pointer (some ⟨p, 0, none⟩), .int .i64 id, .string user] w fun e w' => e = .returned (.int .i64 (postOf S id user).1) ∧ After F w w' p (postOf S id user).2 := by
  have HF := Aside0.mk h
  clear h
  go_enter Try.func31, Try.ntmps31
  go_wp2_with (first | (go_at_call 50; refine (move_calls p S F 7 id hid user 2 5 (some ⟨w.heap.size, 0, none⟩) 1 [3] (by decide) _ (HF.out.alloc _) (lit_C w [3] (by decide)) hn).mono ?_; rintro e w' ⟨rfl, ha⟩; have HA := Aside0.mk ha; clear ha))
  go_ret
  exact ⟨rfl, after_alloc HA.out⟩
theorem FlwP.alloc {w : World} {F : Nat → Prop} {p : Nat} {S : FlowS} {L : Parts} (h : FlwP w F p S L) (o : Obj) : FlwP (w.alloc o) F p S L := h.below (fun k hk => Below.heap_alloc w o k (h.lt k hk))
def submitOf (S : FlowS) (id : Int) (user : ByteArray) : Int × FlowS :=
  if findOf S id user 0 [1] = 0 then (if (needOf S.steps (docD S id).vo).2 = true then (0, actedS S 2 id user { docD S id with st := settled (docD S id).ap.length (needOf S.steps (docD S id).vo).1 }) else (3, S)) else (findOf S id user 0 [1], S)
/-- A document's state turns: the workflow with it. -/
theorem turned_state {w w' : World} {F : Nat → Prop} {p b : Nat} {S : FlowS} {L : Parts} {j : Nat} {D : DocS} {v : Value} {st : Int} (h : FlwP w F p S L) (h1 : L.ds[j]? = some b) (h2 : S.docs[j]? = some D) (h3 : L.vp[j]? = some v)
    (hb : w'.heap[b]? = some (.cells #[.string D.au, .int .i64 D.vo, .int .i64 st, v] 75 (0, 0))) (hB : But (fun k => k = b) w w') : FlwP w' F p { S with docs := S.docs.set j { D with st := st } } { L with vp := L.vp.set j v } ∧ Stp F F w w' := by
  have hD := h.docs j b D v h1 h2 h3
  refine ⟨h.turned_doc h1 h2 h3 (fun _ hk => hk) (fun k hk hb _ => hB.block k (h.lt k hk) hb) ⟨hb, hD.own, row_over rfl hD.row (fun _ hk => hk) (fun k hk => hB.block k (h.lt k (hD.row.1 k hk)) (typed_ne (hD.tv hk) hD.tb (by decide)))⟩ (fun k hk => .inl hk) (fun k hk => Nat.lt_of_lt_of_le (h.lt k hk) hB.size), hB.mono (fun k _ e => by rw [e]; exact hD.own), fun _ hk => .inl hk⟩
theorem Stp.below {F G : Nat → Prop} {w w1 w' : World} (h : Stp F G w w1) (hb : Below w1.heap.size w1 w') : Stp F G w w' := ⟨⟨hb.os.trans h.but.os, hb.tape.trans h.but.tape, hb.output.trans h.but.output, Nat.le_trans h.but.size hb.size, fun k hk hx => (hb.block k (Nat.lt_of_lt_of_le hk h.but.size)).trans (h.but.block k hk hx)⟩, h.grow⟩
set_option maxHeartbeats 4000000 in
set_option maxRecDepth 100000 in
theorem submit_calls (p : Nat) (S : FlowS) (F : Nat → Prop) (id : Int) (hid : (Lit.int .i64 id).wf = true) (user : ByteArray) (w : World) (h : Flw w F p S) (hn : S.acts.length ≤ 1000000) :
    Calls Try.prog 29 #[.pointer (some ⟨p, 0, none⟩), .int .i64 id, .string user] w fun e w' => e = .returned (.int .i64 (submitOf S id user).1) ∧ After F w w' p (submitOf S id user).2 := by
  have HFl := Aside0.mk h
  obtain ⟨L, h⟩ := h
  have HP := Aside0.mk h
  unfold submitOf
  obtain ⟨r, hr⟩ : ∃ r, findOf S id user 0 [1] = r := ⟨_, rfl⟩
  by_cases h0 : r = 0
  · subst h0
    rw [if_pos hr]
    obtain ⟨b, v, -, hp, a1, a2, a3, hD⟩ := find_there h hr
    obtain ⟨D, hDe⟩ : ∃ D, docD S id = D := ⟨_, rfl⟩
    rw [hDe] at a2 hD ⊢
    obtain ⟨Av, cv, hv⟩ := Kd.R_slice hD.row
    subst hv
    have HA1 := Aside0.mk a1
    have HA2 := Aside0.mk a2
    have HA3 := Aside0.mk a3
    have HD := Aside0.mk hD
    have HPT := Aside0.mk hp
    have HR := Aside0.mk hr
    clear h hr hp a1 a2 a3 hD hDe
    obtain ⟨⟨nn, ok⟩, hne⟩ : ∃ q, needOf S.steps D.vo = q := ⟨_, rfl⟩
    rw [hne]
    have HN := Aside0.mk hne
    clear hne
    cases ok
    · rw [if_neg (by simp)]
      go_enter Try.func29, Try.ntmps29
      go_wp2_with (first | (go_at_call 48; refine (find_calls p S L F id hid user 0 (some ⟨w.heap.size, 0, none⟩) 1 [1] (by decide) 0 HR.out _ (HP.out.alloc _) (lit_C w [1] (by decide))).mono ?_; rw [HPT.out]; rintro e w1 ⟨rfl, hdr⟩; have HB1 := Aside0.mk (below_then (below_alloc (Below.refl _ w) _) (by simp) hdr.below); have c1 := (blk_cell (blk_below HD.out.blk HB1.out) 1).trans rfl; clear hdr) | (go_at_call 13; refine (need_is HN.out (HFl.out.below HB1.out)).mono ?_; rintro e w2 ⟨rfl, hb⟩; have HB := Aside0.mk (below_then HB1.out HB1.out.size hb); clear hb c1))
      go_ret
      exact ⟨rfl, F, HFl.out.below HB.out, (Stp.refl F w).below HB.out⟩
    · rw [if_pos rfl]
      go_enter Try.func29, Try.ntmps29
      go_wp2_with (first | (go_at_call 48; refine (find_calls p S L F id hid user 0 (some ⟨w.heap.size, 0, none⟩) 1 [1] (by decide) 0 HR.out _ (HP.out.alloc _) (lit_C w [1] (by decide))).mono ?_; rw [HPT.out]; rintro e w1 ⟨rfl, hdr⟩; have HB1 := Aside0.mk (below_then (below_alloc (Below.refl _ w) _) (by simp) hdr.below); have c1 := (blk_cell (blk_below HD.out.blk HB1.out) 1).trans rfl; clear hdr) | (go_at_call 13; refine (need_is HN.out (HFl.out.below HB1.out)).mono ?_; rintro e w2 ⟨rfl, hb⟩; have HB := Aside0.mk (below_then HB1.out HB1.out.size hb); clear hb c1) | (go_at_call 49; refine (settle_calls b _ _ _ Av D.ap.length cv nn _ (blk_below HD.out.blk HB.out)).mono ?_; rintro e w3 ⟨rfl, h3, hb3⟩; have HT := Aside0.mk (turned_state (HP.out.below (fun k hk => HB.out.block k (HP.out.lt k hk))) HA1.out HA2.out HA3.out h3 hb3); clear h3 hb3) | (go_at_call 47; refine (note_calls p _ _ _ 2 id user _ HT.out.1 hn).mono ?_; rintro e w4 ⟨rfl, ha⟩; have HAF := Aside0.mk ha; clear ha))
      go_ret
      exact ⟨rfl, After.then (((Stp.refl F w).below HB.out).trans HT.out.2) HAF.out⟩
  · rw [hr, if_neg h0]
    have hp : findPtr L id r = .pointer none := by unfold findPtr; rw [if_neg h0]; rfl
    have hb : (r != 0) = true := bne_iff_ne.mpr h0
    have HPT := Aside0.mk hp
    have HR := Aside0.mk hr
    clear h hr hp h0
    go_enter Try.func29, Try.ntmps29
    go_wp2_with (first | (go_at_call 48; refine (find_calls p S L F id hid user 0 (some ⟨w.heap.size, 0, none⟩) 1 [1] (by decide) r HR.out _ (HP.out.alloc _) (lit_C w [1] (by decide))).mono ?_; rw [HPT.out]; rintro e w' ⟨rfl, ⟨nd, rfl⟩⟩))
    go_ret
    exact ⟨rfl, after_alloc (After.drew (HFl.out.alloc _) _)⟩
def approveOf (S : FlowS) (id : Int) (user : ByteArray) : Int × FlowS :=
  if findOf S id user 1 [2] = 0 then (if hasB (docD S id).ap user = true then (8, S) else (0, actedS S 3 id user { docD S id with st := settled ((docD S id).ap.length + 1) (needOf S.steps (docD S id).vo).1, ap := (docD S id).ap ++ [user] })) else (findOf S id user 1 [2], S)
theorem hasB_false {l : List ByteArray} {s : ByteArray} (h : hasB l s = false) {k : Nat} (hk : k < l.length) : (l[k].toList == s.toList) = false := by
  unfold hasB at h
  rw [List.any_eq_false] at h
  have := h _ (List.getElem_mem hk)
  simpa using this
theorem hasB_true {l : List ByteArray} {s : ByteArray} (h : hasB l s = true) : ∃ k, ∃ hk : k < l.length, (l[k].toList == s.toList) = true := by
  unfold hasB at h
  rw [List.any_eq_true] at h
  obtain ⟨x, hx, h⟩ := h
  obtain ⟨k, hk, rfl⟩ := List.mem_iff_getElem.1 hx
  exact ⟨k, hk, h⟩
set_option maxHeartbeats 8000000 in
set_option maxRecDepth 100000 in
theorem approve_calls (p : Nat) (S : FlowS) (F : Nat → Prop) (id : Int) (hid : (Lit.int .i64 id).wf = true) (user : ByteArray) (w : World) (h : Flw w F p S) (hn : S.acts.length ≤ 1000000) (ha : (docD S id).ap.length ≤ 1000000) :
    Calls Try.prog 30 #[.pointer (some ⟨p, 0, none⟩), .int .i64 id, .string user] w fun e w' => e = .returned (.int .i64 (approveOf S id user).1) ∧ After F w w' p (approveOf S id user).2 := by
  have HFl := Aside0.mk h
  obtain ⟨L, h⟩ := h
  have HP := Aside0.mk h
  obtain ⟨q, hq⟩ : ∃ q, approveOf S id user = q := ⟨_, rfl⟩
  rw [hq]
  have HQ := Aside0.mk hq
  clear hq
  obtain ⟨r, hr⟩ : ∃ r, findOf S id user 1 [2] = r := ⟨_, rfl⟩
  by_cases h0 : r = 0
  · subst h0
    obtain ⟨b, v, -, hp, a1, a2, a3, hD⟩ := find_there h hr
    obtain ⟨D, hDe⟩ : ∃ D, docD S id = D := ⟨_, rfl⟩
    rw [hDe] at a2 hD ha
    have HDE := Aside0.mk hDe
    obtain ⟨Av, cv, hv⟩ := Kd.R_slice hD.row
    subst hv
    have HA1 := Aside0.mk a1
    have HA2 := Aside0.mk a2
    have HA3 := Aside0.mk a3
    have HD := Aside0.mk hD
    have HPT := Aside0.mk hp
    have HR := Aside0.mk hr
    clear h hr hp a1 a2 a3 hD hDe
    obtain ⟨⟨nn, ok⟩, hne⟩ : ∃ q, needOf S.steps D.vo = q := ⟨_, rfl⟩
    have HN := Aside0.mk hne
    clear hne
    obtain ⟨hb, hhb⟩ : ∃ hb, hasB D.ap user = hb := ⟨_, rfl⟩
    have HHB := Aside0.mk hhb
    clear hhb
    go_enter Try.func30, Try.ntmps30
    go_wp2_with (first | (go_at_call 48; refine (find_calls p S L F id hid user 1 (some ⟨w.heap.size, 0, none⟩) 1 [2] (by decide) 0 HR.out _ (HP.out.alloc _) (lit_C w [2] (by decide))).mono ?_; rw [HPT.out]; rintro e w1 ⟨rfl, hdr⟩; have HB1 := Aside0.mk (below_then (below_alloc (Below.refl _ w) _) (by simp) hdr.below); have c3 := (blk_cell (blk_below HD.out.blk HB1.out) 3).trans rfl; clear hdr))
    clear c3
    go_loopw [9, 28, 29, 30, 31, 32, 33, 34, 35] (fun _ v28 _ _ _ _ _ _ _ wr => ∃ k : Nat, k ≤ D.ap.length ∧ v28 = .int .i64 k ∧ Aside0 (Below w.heap.size w wr) ∧ Aside0 (∀ j (hj : j < D.ap.length), j < k → (D.ap[j].toList == user.toList) = false)) (fun _ v28 _ _ _ _ _ _ _ _ => D.ap.length - (intOf v28).toNat)
    case atStart => exact ⟨0, Nat.zero_le _, rfl, HB1, ⟨fun j _ hj => by omega⟩⟩
    case round =>
      obtain ⟨k, hk, rfl, HB, HJ⟩ := hrel
      by_cases hlt : k < D.ap.length
      · obtain ⟨ad, e, q0⟩ := Kd.at_string (Kd.C_below (Kd.R_reads' HD.out.row).2.2 HB.out) (k : Int) (by omega) (by omega)
        subst e
        rw [Int.toNat_natCast] at q0
        have d1 : decide ((k : Int) < (D.ap.length : Int)) = true := decide_eq_true (by omega)
        have d2 : decide (k < D.ap.length) = true := decide_eq_true hlt
        have p0 : (0 : Int) ≤ (k : Int) := by omega
        have p1 : (k : Int) < (D.ap.length : Int) := by omega
        have hsk : rdOf ByteArray.empty D.ap (k : Int) = D.ap[k] := by simp [rdOf, hlt]
        obtain ⟨s, hs⟩ : ∃ s, rdOf ByteArray.empty D.ap (k : Int) = s := ⟨_, rfl⟩
        rw [hs] at q0 hsk
        have HSK := Aside0.mk hsk
        clear hs hsk
        obtain ⟨eb, heb⟩ : ∃ eb, (s.toList == user.toList) = eb := ⟨_, rfl⟩
        cases eb
        · have HEB := Aside0.mk heb
          go_wp2
          go_roundw
          case rel =>
            refine ⟨k + 1, by omega, by go_num, HB, ⟨fun j hj hjk => ?_⟩⟩
            by_cases e : j = k
            · subst e
              rw [← HSK.out]
              exact HEB.out
            · exact HJ.out j hj (by omega)
          case measure => simp [intOf]; omega
        · have HBT := Aside0.mk (show hb = true by
            rw [← HHB.out]
            unfold hasB
            rw [List.any_eq_true]
            exact ⟨D.ap[k], List.getElem_mem hlt, by rw [← HSK.out]; exact heb⟩)
          go_wp2
          go_ret
          have hq : q = (8, S) := by
            rw [← HQ.out]
            unfold approveOf
            rw [if_pos HR.out, HDE.out, HHB.out, HBT.out, if_pos rfl]
          rw [hq]
          exact ⟨rfl, F, HFl.out.below HB.out, (Stp.refl F w).below HB.out⟩
      · obtain rfl : k = D.ap.length := by omega
        have d1 : decide ((D.ap.length : Int) < (D.ap.length : Int)) = false := decide_eq_false (by omega)
        have HBF := Aside0.mk (show hb = false by
          rw [← HHB.out]
          cases hc : hasB D.ap user
          · rfl
          · obtain ⟨x, hx, hxe⟩ := hasB_true hc
            rw [HJ.out x hx hx] at hxe
            cases hxe)
        have HDr := Aside0.mk (blk_below HD.out.blk HB.out)
        have HRr := Aside0.mk (Kd.R_below HD.out.row HB.out)
        have HPr := Aside0.mk (HP.out.below (fun k hk => HB.out.block k (HP.out.lt k hk)))
        have c3 := (blk_cell HDr.out 3).trans rfl
        have hna := hn
        clear hn
        go_upto_region 11 with (first | ((with_reducible refine gate_builtin (b := .append) (xs := #[.tmp 40, .tmp 42]) rfl ?_); at_builtin; refine Kd.R_append Kd.string (w0 := wr) 0 rfl (.tmp 40) (.tmp 42) 23 9 (.string ⟨#[]⟩) 16 rfl Try.underlying23 info9 rfl (by decide) (by omega) (.slice Av D.ap.length cv) D.ap user [.string user] (fun k => F k ∨ wr.heap.size ≤ k) (fun _ => False) rfl rfl ?aP (fun _ hk => hk.elim) ?aF ?aO ?aB ?aS ?aL ?_; (case aP => exact rfl); (case aF => exact fun k hk => .inr hk); (case aO => exact Kd.R_mono HRr.out (fun k hk => .inl hk)); (case aB => exact Below.refl _ _); (case aS => exact Nat.zero_le _); (case aL => omega); intro v1 w2 ho hbl hg hat; obtain ⟨A1, c1, rfl⟩ := Kd.R_slice ho; have HO := Aside0.mk ho; have HG := Aside0.mk hg; have HAT := Aside0.mk hat; have HB2 := Aside0.mk (blk_grown HDr.out hg (fun e => typed_ne (Kd.R_typed HRr.out _ e.symm) ⟨_, HDr.out⟩ (by decide) rfl)); have f3' := blk_frozen HB2.out 3; have c3' := (blk_cell HB2.out 3).trans rfl; clear c3 ho hbl hg hat))
        refine with_world (P := fun x => Code.wp _ _ _ _ x) _ ?_
        intro w3 hw3
        have h := HPr.out
        have hg := HG.out
        have hsz : wr.heap.size ≤ w2.heap.size := hg.size
        have hst : w3.heap.size = w2.heap.size := by rw [hw3]; simp [World.setCell]
        have h0 := HO.out
        rw [show (D.ap ++ [user]).length = D.ap.length + 1 by simp] at h0
        obtain ⟨S3, hS3⟩ : ∃ S3 : FlowS, S3 = { S with docs := S.docs.set (id - 1).toNat { D with ap := D.ap ++ [user] } } := ⟨_, rfl⟩
        obtain ⟨L3, hL3⟩ : ∃ L3 : Parts, L3 = { L with vp := L.vp.set (id - 1).toNat (.slice A1 (D.ap.length + 1) c1) } := ⟨_, rfl⟩
        have hb3 : w3.heap[b]? = some (.cells #[.string D.au, .int .i64 D.vo, .int .i64 D.st, .slice A1 (D.ap.length + 1) c1] 75 (0, 0)) := by rw [hw3]; exact blk_put HB2.out 3 _ rfl
        have HF3 := Aside0.mk (show FlwP w3 (fun k => (F k ∨ wr.heap.size ≤ k) ∧ k < w2.heap.size) p S3 L3 from by
          rw [hS3, hL3]
          refine h.turned_doc HA1.out HA2.out HA3.out (fun k hk => ⟨.inl hk, Nat.lt_of_lt_of_le (h.lt k hk) hsz⟩) (fun k hk hkb hv => ?_) ⟨hb3, ⟨.inl HD.out.own, blk_lt HB2.out⟩, ?_⟩ (fun k hk => ?_) (fun k hk => by rw [hst]; exact hk.2)
          · rw [hw3, Below.heap_setCell _ _ _ _ hkb]
            exact hg.block k (h.lt k hk) (fun e => hv e.symm)
          · rw [hw3]
            exact Kd.R_mono (Kd.R_far (Kd.R_types (Kd.R_bound h0) HB2.out (by decide)) (fun k hk => hk.2) _) (fun k hk => ⟨hk.1.1, hk.1.2.2.1⟩)
          · rcases HAT.out with e | ⟨x, e, hx⟩
            · rw [show (D.ap ++ [user]).length = D.ap.length + 1 by simp] at e
              exact .inl (e.symm.trans hk)
            · refine .inr (fun hF => ?_)
              have := h.lt k hF
              rw [show (Value.slice A1 (D.ap.length + 1) c1).ownBlock = some x by simpa using e] at hk
              cases hk
              omega)
        have HS3 := Aside0.mk (show Stp F (fun k => (F k ∨ wr.heap.size ≤ k) ∧ k < w2.heap.size) w w3 from by
          refine ((Stp.refl F w).below HB.out).trans ⟨?_, fun k hk => hk.1⟩
          rw [hw3]
          exact (But.of_grown hg (fun k hk => HD.out.row.1 k hk)).setCell (by exact HD.out.own) _)
        have hj := get_lt HA2.out
        have HA13 := Aside0.mk (show L3.ds[(id - 1).toNat]? = some b from by rw [hL3]; exact HA1.out)
        have HA23 := Aside0.mk (show S3.docs[(id - 1).toNat]? = some { D with ap := D.ap ++ [user] } from by rw [hS3]; exact List.getElem?_set_self hj)
        have HA33 := Aside0.mk (show L3.vp[(id - 1).toNat]? = some (.slice A1 (D.ap.length + 1) c1) from by rw [hL3]; exact List.getElem?_set_self (get_lt HA3.out))
        have HN3 := Aside0.mk (show needOf S3.steps D.vo = (nn, ok) from by rw [hS3]; exact HN.out)
        have hn3 : S3.acts.length ≤ 1000000 := by rw [hS3]; exact hna
        have HSE := Aside0.mk hS3
        have HBB3 := Aside0.mk hb3
        have c1' := (blk_cell hb3 1).trans rfl
        clear hw3 h hg hsz hst h0 hS3 hL3 hb3 hj HO HG HAT HB2 HPr HRr HDr HA1 HA2 HA3 f3' c3'
        go_wp2_with (first | (go_at_call 13; refine (need_is HN3.out ⟨L3, HF3.out⟩).mono ?_; rintro e w4 ⟨rfl, hbl⟩; have HB4 := Aside0.mk hbl; clear hbl c1') | (go_at_call 49; refine (settle_calls b _ _ _ A1 (D.ap.length + 1) c1 nn _ (blk_below HBB3.out HB4.out)).mono ?_; rintro e w5 ⟨rfl, h5, hb5⟩; have HT := Aside0.mk (turned_state (HF3.out.below (fun k hk => HB4.out.block k (HF3.out.lt k hk))) HA13.out HA23.out HA33.out h5 hb5); clear h5 hb5) | (go_at_call 47; refine (note_calls p _ _ _ 3 id user _ HT.out.1 hn3).mono ?_; rintro e w6 ⟨rfl, ha⟩; have HAF := Aside0.mk ha; clear ha))
        go_ret
        have hq : q = (0, actedS S 3 id user { D with st := settled (D.ap.length + 1) nn, ap := D.ap ++ [user] }) := by
          rw [← HQ.out]
          unfold approveOf
          rw [if_pos HR.out, HDE.out, HHB.out, HBF.out, HN.out, if_neg (by simp)]
        rw [hq]
        refine ⟨rfl, ?_⟩
        have hfin := After.then ((HS3.out.below HB4.out).trans HT.out.2) HAF.out
        rw [HSE.out] at hfin
        have hss : (S.docs.set (id - 1).toNat { D with ap := D.ap ++ [user] }).set (id - 1).toNat { D with ap := D.ap ++ [user], st := settled (D.ap.length + 1) nn } = S.docs.set (id - 1).toNat { D with st := settled (D.ap.length + 1) nn, ap := D.ap ++ [user] }   := by rw [List.set_set]
        unfold actedS
        rw [← hss]
        exact hfin
  · have hq : q = (r, S) := by
      rw [← HQ.out]
      unfold approveOf
      rw [hr, if_neg h0]
    rw [hq]
    clear hq HQ
    have hp : findPtr L id r = .pointer none := by unfold findPtr; rw [if_neg h0]; rfl
    have hb : (r != 0) = true := bne_iff_ne.mpr h0
    have HPT := Aside0.mk hp
    have HR := Aside0.mk hr
    clear h hr hp h0
    go_enter Try.func30, Try.ntmps30
    go_wp2_with (first | (go_at_call 48; refine (find_calls p S L F id hid user 1 (some ⟨w.heap.size, 0, none⟩) 1 [2] (by decide) r HR.out _ (HP.out.alloc _) (lit_C w [2] (by decide))).mono ?_; rw [HPT.out]; rintro e w' ⟨rfl, ⟨nd, rfl⟩⟩))
    go_ret
    exact ⟨rfl, after_alloc (After.drew (HFl.out.alloc _) _)⟩
theorem setCells_block (b t : Nat) : ∀ (vs : List Value) (o : Nat) (w : World) (cur : Array Value), w.heap[b]? = some (.cells cur t (0, 0)) → ∃ cur', (w.setCells b o vs).heap[b]? = some (.cells cur' t (0, 0)) ∧ cur'.size = cur.size
  | [], o, w, cur, h => ⟨cur, h, rfl⟩
  | v :: r, o, w, cur, h => by
    obtain ⟨cur', h1, h2⟩ := setCells_block b t r (o + 1) (w.setCell ⟨b, o, none⟩ v) _ (blk_set h o v)
    exact ⟨cur', h1, by rw [h2]; simp⟩
theorem setCells_but (b : Nat) : ∀ (vs : List Value) (o : Nat) (w : World), But (fun k => k = b) w (w.setCells b o vs)
  | [], o, w => But.refl _ _
  | v :: r, o, w => ((But.refl (fun k => k = b) w).setCell (p := ⟨b, o, none⟩) rfl v).trans (setCells_but b r (o + 1) _)
theorem wpList_clear_run {P : Program} {w : World} {ops : Array Oper} {rest : List Oper} {o : Oper} {a : Act} {Q : Exit → Act → World → Prop} (hg : o.guard = none) (m : Operand) (t : TypeId)
    (hop : o.op = Op.call { callee := Callee.builtin Builtin.clear, args := #[m], argTypes := #[t] }) (v : Value) (hm : a.eval m = v) (w' : World) (hrun : (Builtin.clear_ #[t] o.type #[v]).run P w = .ok (.tuple #[]) w')
    (hK : wpList P ops Q rest (a.put o.dst (.tuple #[])) w') : wpList P ops Q (o :: rest) a w := by
  refine wpList_plain hg fun K' hK' => ?_
  unfold Oper.wp
  simp [execOp, hop, resolve, invoke, builtin, hm, hrun, Result.andThen]
  exact hK' _ _ hK
/-- A row of strings, cleared and cut to nothing. -/
theorem row_cleared {w : World} {F : Nat → Prop} {A : Option Addr} {n c : Nat} {xs : List ByteArray} (h : Kd.string.R 9 w 0 F (.slice A n c) xs) (hn : n = xs.length) :
    ∃ w', (∀ ty, (Builtin.clear_ #[23] ty #[.slice A n c]).run Try.prog w = .ok (.tuple #[]) w') ∧ Kd.string.R 9 w' 0 F (.slice A 0 c) [] ∧ But (fun k => (Value.slice A n c).ownBlock = some k) w w' := by
  obtain ⟨h0, inner, hown, hr⟩ := h
  rcases hown.2 with ⟨hnil, hz⟩ | ⟨g, cap, cur, hv, hb, hh, h1, h2, h3, h4⟩
  · cases hnil
    refine ⟨w, fun ty => by simp [Builtin.clear_, run_underlying Try.underlying23], Kd.R_nil _ _ _ _ _, But.refl _ _⟩
  · cases hv
    have hrow : ∀ (w' : World) (cur' : Array Value), w'.heap[g]? = some (.cells cur' 9 (0, 0)) → cur'.size = cur.size → Kd.string.R 9 w' 0 F (.slice (some ⟨g, 0, none⟩) 0 c) [] := fun w' cur' hc hs =>
      ⟨fun k hk => h0 k hk, [], ⟨by simp, .inr ⟨g, c, cur', rfl, Nat.zero_le _, hc, Nat.zero_le _, h2, by rw [hs]; exact h3, by simp⟩⟩, Reps.none _ _⟩
    by_cases hn0 : xs.length = 0
    · rw [hn0]
      exact ⟨w, fun ty => by simp [Builtin.clear_, run_underlying Try.underlying23], hrow w cur hh rfl, But.refl _ _⟩
    · have hrun := fun ty => Lib.run_clear_slice (P := Try.prog) w 23 9 ty (.string ⟨#[]⟩) Try.underlying23 (fun W => by kernel_rfl) rfl rfl g 0 xs.length c (by omega)
        (fun j hj => by rw [Nat.zero_add, blk_cell hh j]; simp; have : Kd.string.sz = 1 := rfl; rw [this] at h3; omega) (fun j hj => blk_frozen hh _)
      obtain ⟨cur', hc', hs'⟩ := setCells_block g 9 (List.replicate xs.length (.string ⟨#[]⟩)) 0 w cur hh
      exact ⟨_, hrun, hrow _ cur' hc' hs', (setCells_but g _ 0 w).mono (fun k _ e => by rw [e]; rfl)⟩
theorem docAt_acted {S : FlowS} {kind id : Int} {user : ByteArray} {D E : DocS} (h : docAt S id = some D) : docAt (actedS S kind id user E) id = some E := by
  unfold docAt at h ⊢
  by_cases h1 : id < 1
  · rw [if_pos h1] at h; cases h
  · rw [if_neg h1] at h ⊢
    by_cases h2 : id > S.docs.length
    · rw [if_pos h2] at h; cases h
    · have h3 : ¬ id > (actedS S kind id user E).docs.length := by
        show ¬ id > (S.docs.set (id - 1).toNat E).length
        rw [List.length_set]
        exact h2
      rw [if_neg h3]
      exact List.getElem?_set_self (by omega)
def redraftOf (S : FlowS) (id : Int) (user : ByteArray) : Int × FlowS :=
  if findOf S id user 0 [4] = 0 then (0, actedS S 5 id user { docD S id with st := 1, ap := [] }) else (findOf S id user 0 [4], S)
set_option maxHeartbeats 4000000 in
set_option maxRecDepth 100000 in
theorem redraft_calls (p : Nat) (S : FlowS) (F : Nat → Prop) (id : Int) (hid : (Lit.int .i64 id).wf = true) (user : ByteArray) (w : World) (h : Flw w F p S) (hn : S.acts.length ≤ 1000000) :
    Calls Try.prog 58 #[.pointer (some ⟨p, 0, none⟩), .int .i64 id, .string user] w fun e w' => e = .returned (.int .i64 (redraftOf S id user).1) ∧ After F w w' p (redraftOf S id user).2 := by
  have HF := Aside0.mk h
  have hmv : ∀ w', Flw w' F p S → (Kd.int .i64).C w' (some ⟨w.heap.size, 0, none⟩) 1 [4] → Calls Try.prog 50 #[.pointer (some ⟨p, 0, none⟩), .int .i64 5, .int .i64 id, .string user, .int .i64 0, .int .i64 1, .slice (some ⟨w.heap.size, 0, none⟩) 1 1] w' fun e w'' => e = .returned (.int .i64 (moveOf S 5 id user 0 1 [4]).1) ∧ After F w' w'' p (moveOf S 5 id user 0 1 [4]).2 :=
    fun w' hw hc => move_calls p S F 5 id hid user 0 1 (some ⟨w.heap.size, 0, none⟩) 1 [4] (by decide) w' hw hc hn
  unfold moveOf at hmv
  unfold redraftOf
  by_cases h0 : findOf S id user 0 [4] = 0
  · rw [if_pos h0] at hmv ⊢
    obtain ⟨D, hd, -⟩ := find_zero h0
    have hde : docD S id = D := by unfold docD; rw [hd]; rfl
    rw [hde] at hmv ⊢
    have hda : docAt (actedS S 5 id user { D with st := 1 }) id = some { D with st := 1 } := docAt_acted hd
    obtain ⟨S1, hS1⟩ : ∃ S1, actedS S 5 id user { D with st := 1 } = S1 := ⟨_, rfl⟩
    rw [hS1] at hmv hda
    have HS1 := Aside0.mk hS1
    have HDA := Aside0.mk hda
    have HMV := Aside0.mk hmv
    clear h h0 hd hde hda hS1 hmv
    go_enter Try.func58, Try.ntmps58
    go_upto_region 4 with (first | (go_at_call 50; refine (HMV.out _ (HF.out.alloc _) (lit_C w [4] (by decide))).mono ?_; rintro e w1 ⟨rfl, ha⟩; have HA := Aside0.mk ha; clear ha))
    obtain ⟨G, ⟨L, h1⟩, hs1⟩ := HA.out
    have HST := Aside0.mk (((Stp.refl F w).alloc _).trans hs1)
    clear hs1 HA
    rcases doc_cases h1 id with ⟨_, h2⟩ | ⟨j, b, E, v, g1, g2, gj, -, a1, a2, a3, hD⟩
    · rw [HDA.out] at h2; cases h2
    rw [HDA.out] at g2
    obtain rfl := Option.some.inj g2
    obtain ⟨Av, cv, hv⟩ := Kd.R_slice hD.row
    have hv : v = .slice Av D.ap.length cv := hv
    subst hv
    obtain ⟨w2, hcl, hrow2, hbut2⟩ := row_cleared hD.row rfl
    have HG1 := Aside0.mk g1
    have HJ := Aside0.mk gj
    have HA1 := Aside0.mk a1
    have HA2 := Aside0.mk a2
    have HA3 := Aside0.mk a3
    have HD := Aside0.mk hD
    have HCL := Aside0.mk hcl
    have HR2 := Aside0.mk hrow2
    have HB2 := Aside0.mk hbut2
    have HP1 := Aside0.mk h1
    have hb2 : w2.heap[b]? = some (.cells #[.string D.au, .int .i64 D.vo, .int .i64 1, .slice Av D.ap.length cv] 75 (0, 0)) := hbut2.obj hD.blk (fun e => typed_ne (hD.tv e) hD.tb (by decide) rfl)
    have c3 := (blk_cell hD.blk 3).trans rfl
    have c3' := (blk_cell hb2 3).trans rfl
    have f3' := blk_frozen hb2 3
    have HBB := Aside0.mk hb2
    clear g1 gj a1 a2 a3 hD hcl hrow2 hbut2 h1 g2 hb2
    go_wp2_with (first | (go_at_call 36; refine (doc_some hid HP1.out HG1.out).mono ?_; rintro e w' ⟨rfl, he_⟩; obtain rfl := he_.symm) | ((with_reducible refine gate_builtin (b := .clear) (xs := #[.tmp 23]) rfl ?_); refine wpList_clear_run rfl (.tmp 23) 23 rfl (.slice Av D.ap.length cv) rfl w2 (HCL.out _) ?_))
    go_ret
    have hj : (id - 1).toNat = j := by have := HJ.out; omega
    have hbG := HD.out.own
    have hst : (w2.setCell ⟨b, 3, none⟩ (.slice Av 0 cv)).heap.size = w2.heap.size := by simp [World.setCell]
    have hF3 : FlwP (w2.setCell ⟨b, 3, none⟩ (.slice Av 0 cv)) G p { S1 with docs := S1.docs.set j { D with st := 1, ap := [] } } { L with vp := L.vp.set j (.slice Av 0 cv) } := by
      refine HP1.out.turned_doc HA1.out HA2.out HA3.out (fun _ hk => hk) (fun k hk hkb hv => ?_) ⟨blk_put HBB.out 3 _ rfl, hbG, ?_⟩ (fun k hk => .inl (by cases Av <;> exact hk)) (fun k hk => ?_)
      · rw [Below.heap_setCell _ _ _ _ hkb]
        exact HB2.out.block k (HP1.out.lt k hk) hv
      · exact Kd.R_mono (Kd.R_far (Kd.R_types HR2.out HBB.out (by decide)) (fun k hk => hk.2) _) (fun k hk => hk.1)
      · rw [hst]
        exact Nat.lt_of_lt_of_le (HP1.out.lt k hk) HB2.out.size
    have hB3 : But G w1 (w2.setCell ⟨b, 3, none⟩ (.slice Av 0 cv)) := (HB2.out.mono (fun k _ e => HD.out.row.1 k e)).setCell (by exact hbG) _
    refine ⟨rfl, ?_⟩
    have hfin := After.then HST.out ⟨G, ⟨_, hF3⟩, ⟨hB3, fun _ hk => .inl hk⟩⟩
    rw [← HS1.out, ← hj] at hfin
    have hss : (S.docs.set (id - 1).toNat { D with st := 1 }).set (id - 1).toNat { D with st := 1, ap := [] } = S.docs.set (id - 1).toNat { D with st := 1, ap := [] } := by rw [List.set_set]
    unfold actedS at hfin ⊢
    rw [← hss]
    exact hfin
  · rw [if_neg h0] at hmv ⊢
    obtain ⟨r, hr⟩ : ∃ r, findOf S id user 0 [4] = r := ⟨_, rfl⟩
    rw [hr] at hmv h0 ⊢
    have hb : (r != 0) = true := bne_iff_ne.mpr h0
    have HMV := Aside0.mk hmv
    clear h h0 hr hmv
    go_enter Try.func58, Try.ntmps58
    go_wp2_with (first | (go_at_call 50; refine (HMV.out _ (HF.out.alloc _) (lit_C w [4] (by decide))).mono ?_; rintro e w1 ⟨rfl, ha⟩; have HA := Aside0.mk ha; clear ha))
    go_ret
    exact ⟨rfl, after_alloc HA.out⟩
/-- What a call returns: a slice of its own. -/
def Fresh {α : Type} (d : Kd α) (e : Nat) (w w' : World) (x : Ending) (xs : List α) : Prop := ∃ v, x = .returned v ∧ d.R e w' w.heap.size (fun k => w.heap.size ≤ k) v xs ∧ Below w.heap.size w w'
theorem Fresh.nil {α : Type} (d : Kd α) (e : Nat) (w : World) : Fresh d e w w (.returned (.slice none 0 0)) [] := ⟨_, rfl, Kd.R_nil _ _ _ _ _, Below.refl _ _⟩
set_option maxHeartbeats 4000000 in
set_option maxRecDepth 100000 in
theorem approvals_calls (p : Nat) (S : FlowS) (F : Nat → Prop) (id : Int) (hid : (Lit.int .i64 id).wf = true) (w : World) (h : Flw w F p S) (hn : (apOf S id).length ≤ 1000000) :
    Calls Try.prog 23 #[.pointer (some ⟨p, 0, none⟩), .int .i64 id] w fun e w' => Fresh Kd.string 9 w w' e (apOf S id) := by
  obtain ⟨L, h⟩ := h
  unfold apOf at hn ⊢
  rcases doc_cases h id with ⟨h1, h2⟩ | ⟨j, b, D, v, h1, h2, -, -, -, -, -, hD⟩
  · rw [h2]
    clear hn
    go_enter Try.func23, Try.ntmps23
    go_wp2_with (first | (go_at_call 36; refine (doc_none hid h h1).mono ?_; rintro e w' ⟨rfl, he_⟩; obtain rfl := he_.symm))
    go_ret
    exact Fresh.nil _ _ _
  · rw [h2] at hn ⊢
    have hn : D.ap.length ≤ 1000000 := hn
    obtain ⟨Av, cv, hv⟩ := Kd.R_slice hD.row
    subst hv
    have c3 := (blk_cell hD.blk 3).trans rfl
    have HC := Aside0.mk (Kd.R_reads' hD.row).2.2
    clear h2 hD
    go_enter Try.func23, Try.ntmps23
    go_wp2_with (first | (go_at_call 36; refine (doc_some hid h h1).mono ?_; rintro e w' ⟨rfl, he_⟩; obtain rfl := he_.symm) | ((with_reducible refine gate_builtin (b := .append) (xs := #[.tmp 11, .tmp 15]) rfl ?_); at_builtin; refine Kd.R_append_rows Kd.string (w0 := w) (Rr := Kd.string.K w) w.heap.size rfl (.tmp 11) (.tmp 15) 23 9 (.string ⟨#[]⟩) 16 rfl Try.underlying23 info9 rfl (by decide) (by omega) (.slice none 0 0) [] D.ap Av D.ap.length cv (fun k => w.heap.size ≤ k) (fun _ => False) rfl rfl ?aO ?aR ?aK (fun _ hk => hk.elim) ?aF ?aB ?aS ?aL ?_; (case aO => exact Kd.R_nil _ _ _ _ _); (case aR => exact HC.out); (case aK => exact fun x cs hx => hx); (case aF => exact fun k hk => hk); (case aB => exact Below.refl _ _); (case aS => exact Nat.le_refl _); (case aL => simp; omega); intro v1 w1 ho hb hg hat; obtain ⟨A1, c1, rfl⟩ := Kd.R_slice ho; have HO := Aside0.mk ho; have HB := Aside0.mk hb; clear ho hb hg hat))
    go_ret
    exact ⟨_, rfl, HO.out, HB.out⟩
theorem approvals_nil (id : Int) (w : World) : Calls Try.prog 23 #[.pointer none, .int .i64 id] w fun e w' => e = .returned (.slice none 0 0) ∧ w' = w := by
  go_enter Try.func23, Try.ntmps23
  go_wp2_with (first | (go_at_call 36; refine (doc_nil id _).mono ?_; rintro e w' ⟨rfl, rfl⟩))
  go_ret
  exact ⟨rfl, rfl⟩
set_option maxHeartbeats 4000000 in
set_option maxRecDepth 100000 in
theorem acts_calls (p : Nat) (S : FlowS) (F : Nat → Prop) (w : World) (h : Flw w F p S) (hn : S.acts.length ≤ 1000000) :
    Calls Try.prog 16 #[.pointer (some ⟨p, 0, none⟩)] w fun e w' => Fresh k55 55 w w' e S.acts := by
  obtain ⟨L, h⟩ := h
  obtain ⟨Av, cv, hv⟩ := Kd.R_slice h.acts
  have BK := h.blk
  have hR := h.acts
  rw [hv] at BK hR
  have c3 := (blk_cell BK 3).trans rfl
  have HC := Aside0.mk (Kd.R_reads' hR).2.2
  clear h hR BK hv
  go_enter Try.func16, Try.ntmps16
  go_wp2_with (first | ((with_reducible refine gate_builtin (b := .append) (xs := #[.tmp 5, .tmp 9]) rfl ?_); at_builtin; refine Kd.R_append_rows k55 (w0 := w) (Rr := k55.K w) w.heap.size rfl (.tmp 5) (.tmp 9) 41 55 (.agg #[.int .i64 0, .int .i64 0, .string ⟨#[]⟩]) 32 rfl Try.underlying41 info55 rfl (by decide) (by omega) (.slice none 0 0) [] S.acts Av S.acts.length cv (fun k => w.heap.size ≤ k) (fun _ => False) rfl rfl ?aO ?aR ?aK (fun _ hk => hk.elim) ?aF ?aB ?aS ?aL ?_; (case aO => exact Kd.R_nil _ _ _ _ _); (case aR => exact HC.out); (case aK => exact fun x cs hx => by obtain rfl := k55_open hx; exact k55_mkM _ _ _ _); (case aF => exact fun k hk => hk); (case aB => exact Below.refl _ _); (case aS => exact Nat.le_refl _); (case aL => simp; omega); intro v1 w1 ho hb hg hat; obtain ⟨A1, c1, rfl⟩ := Kd.R_slice ho; have HO := Aside0.mk ho; have HB := Aside0.mk hb; clear ho hb hg hat))
  go_ret
  exact ⟨_, rfl, HO.out, HB.out⟩
theorem acts_nil (w : World) : Calls Try.prog 16 #[.pointer none] w fun e w' => e = .returned (.slice none 0 0) ∧ w' = w := by
  go_enter Try.func16, Try.ntmps16
  go_wp2
  go_ret
  exact ⟨rfl, rfl⟩
/-- An element, as it lies. -/
def vR (v : Value) : Option (DataW Value × List MemPlace) := some (.held v, [])
theorem zero4 (w : World) : (zeroValue 4).run Try.prog w = .ok (.bool false) w := by kernel_rfl
theorem strKeyed : Keyed Try.prog 9 := string_keyed Try.underlying9
theorem keyS {s : ByteArray} (h : s.size ≤ maxLen) : keyOf Try.prog 9 (.string s) = some (.string s.data.toList) := keyOf_string_mk Try.underlying9 h
theorem lit_ne {a b : ByteArray} (h : a ≠ b) : Lit.string a.data.toList ≠ Lit.string b.data.toList := by
  intro h'
  simp only [Lit.string.injEq] at h'
  exact h (ByteArray.ext (Array.ext' h'))
/-- Block b is a map, and an element is true where the key is among l. -/
def MapB (w : World) (b n : Nat) (l : List ByteArray) : Prop := ∃ D : DataW Value, w.ownsMap Try.prog 9 vR b n D ∧ ∀ s : ByteArray, s.size ≤ maxLen → D.atKey (.string s.data.toList) (.held (.bool false)) = .held (.bool (hasB l s))
theorem MapB.made (w : World) : MapB (w.alloc (.map #[] 0)) w.heap.size 0 [] := ⟨_, World.ownsMap_made w _ _ _, fun _ _ => rfl⟩
theorem MapB.look {w : World} {b n : Nat} {l : List ByteArray} (h : MapB w b n l) {s : ByteArray} (hs : s.size ≤ maxLen) : (Instr.lookup 64 (.map (some b)) (.string s) false).run Try.prog w = .ok (.bool (hasB l s)) w := by
  obtain ⟨D, ho, hD⟩ := h
  obtain ⟨v, ps, hrun, hv⟩ := ho.lookup strKeyed Try.underlying64 (zero4 w) (zd := .held (.bool false)) (zp := []) rfl (keyS hs)
  rw [hrun]
  simp only [vR, Option.some.injEq, Prod.mk.injEq] at hv
  rw [hD s hs] at hv
  simp only [DataW.held.injEq] at hv
  rw [hv.1]
theorem MapB.store {w : World} {b n : Nat} {l : List ByteArray} (h : MapB w b n l) (hn : n < maxLen) {s : ByteArray} (hs : s.size ≤ maxLen) :
    ∃ w', (Instr.mapUpdate 64 (.map (some b)) (.string s) (.bool true)).run Try.prog w = .ok () w' ∧ MapB w' b (n + 1) (l ++ [s]) ∧ w.grownBy w' (some b) := by
  obtain ⟨D, ho, hD⟩ := h
  obtain ⟨w', hrun, ho', hg⟩ := ho.update strKeyed Try.underlying64 hn (val := .bool true) (d := .held (.bool true)) (ps := []) (keyS hs) rfl
  refine ⟨w', hrun, ⟨_, ho', fun t ht => ?_⟩, hg⟩
  by_cases e : t = s
  · subst e
    rw [atKey_put_same ho.isMap (strKeyed.key (keyS hs)), show hasB (l ++ [t]) t = true by simp [hasB]]
  · have hne : (s.toList == t.toList) = false := beq_eq_false_iff_ne.mpr (fun h => e (bytes_ext h.symm))
    have hh : hasB (l ++ [s]) t = hasB l t := by
      unfold hasB
      rw [List.any_append, List.any_cons, List.any_nil, hne, Bool.or_false, Bool.or_false]
    rw [atKey_put_other (lit_ne e), hD t ht, hh]
theorem MapB.move {w w' : World} {b n : Nat} {l : List ByteArray} (h : MapB w b n l) (hm : w'.heap[b]? = w.heap[b]?) : MapB w' b n l := by
  obtain ⟨D, ⟨es, clock, h1, h2⟩, hD⟩ := h
  exact ⟨D, ⟨es, clock, hm.trans h1, h2⟩, hD⟩
theorem MapB.who {w : World} {b n : Nat} {l : List ByteArray} (h : MapB w b n l) : Who w b l := by
  obtain ⟨D, ⟨es, clock, h1, h2⟩, hD⟩ := h
  exact ⟨es, clock, h1, fun W s hW hs => MapB.look ⟨D, ⟨es, clock, hW, h2⟩, hD⟩ hs⟩
theorem MapB.lt {w : World} {b n : Nat} {l : List ByteArray} (h : MapB w b n l) : b < w.heap.size := h.who.lt
end Go.Proofs.Ytbbhichndfbooaa.P
namespace Go.Proofs.Ytbbhichndfbooaa.P
open Go.RowKit Go.Proofs.YtbbhichndfbooaaW.PrintWords Go.Proofs.YtbbhichndfbooaaW.PrintLast Go.Proofs.YtbbhichndfbooaaW.PrintMore
attribute [local go_sem] max2_int min2_int max_two min_two max_three min_three max_four min_four   -- for this text's walks alone
set_option linter.unusedVariables false
set_option linter.unusedSimpArgs false
/-! ### flow_right: function 32 -/
def flow_right.l0 : Nat → List (S60) → List (S60) → Int → Int → Option (Bool)
  | 0, _, _, _, _ => none
  | k + 1, x0, x5, x6, x7 => if x7 < x6 then (if 0 ≤ x7 then (if x7 < (x5.length : Int) then (if ((rd_T60 x5 x7).f0) < 0 then (some false) else (if x7 > 0 then (if 0 ≤ (wrap64 (x7 - 1)) then (if (wrap64 (x7 - 1)) < (x0.length : Int) then (if ((rd_T60 x0 (wrap64 (x7 - 1))).f0) ≥ ((rd_T60 x5 x7).f0) then (some false) else (if ((rd_T60 x5 x7).f1) < 0 then (some false) else (if ((rd_T60 x5 x7).f1) > 5 then (some false) else (flow_right.l0 k x0 x5 x6 (wrap64 (x7 + 1)))))) else (none)) else (none)) else (if ((rd_T60 x5 x7).f1) < 0 then (some false) else (if ((rd_T60 x5 x7).f1) > 5 then (some false) else (flow_right.l0 k x0 x5 x6 (wrap64 (x7 + 1))))))) else (none)) else (none)) else (some true)
def flow_right.f (k : Nat) (l0 : List (S60)) : Option (Bool) := flow_right.l0 k l0 l0 (l0.length : Int) 0
theorem flow_right.mono_l : ∀ k, (∀ y0 y1 y2 y3, LeO (flow_right.l0 k y0 y1 y2 y3) (flow_right.l0 (k + 1) y0 y1 y2 y3))
  | 0 => fun _ _ _ _ r h => by simp [flow_right.l0] at h
  | k + 1 => by
    have ih0 := flow_right.mono_l k
    · intro y0 y1 y2 y3
      unfold flow_right.l0
      repeat' first
      | (with_reducible exact ih0 _ _ _ _)
      | (with_reducible exact LeO.refl _)
      | (with_reducible exact LeO.none _)
      | (with_reducible refine LeO.ite ?_ ?_)
      | (with_reducible refine LeO.bind ?_ (fun _ => ?_))
      | exact ih0 _ _ _ _
      | exact LeO.none _
      | refine LeO.ite ?_ ?_
      | refine LeO.bind ?_ (fun _ => ?_)
theorem flow_right.mono : ∀ a0 k, LeO (flow_right.f k a0) (flow_right.f (k + 1) a0) := by
  intro a0 k
  have ih0 := flow_right.mono_l k
  unfold flow_right.f
  repeat' first
      | (with_reducible exact ih0 _ _ _ _)
      | (with_reducible exact LeO.refl _)
      | (with_reducible exact LeO.none _)
      | (with_reducible refine LeO.ite ?_ ?_)
      | (with_reducible refine LeO.bind ?_ (fun _ => ?_))
      | exact ih0 _ _ _ _
      | exact LeO.none _
      | refine LeO.ite ?_ ?_
      | refine LeO.bind ?_ (fun _ => ?_)
set_option maxHeartbeats 8000000 in
set_option maxRecDepth 100000 in
theorem flow_right.calls (k : Nat) (A0 : Option Addr) (c0 : Nat) (l0 : List (S60)) (r : Bool) (w : World) (hr0 : Kd.C k60 w A0 l0.length l0) (hc0 : l0.length ≤ c0) (h : flow_right.f k l0 = some r) :
    Calls Try.prog 32 #[.slice A0 l0.length c0] w fun e w' => e = .returned (.bool r) ∧ Below w.heap.size w w' := by
  have hu60 := Try.underlying60
  have HR0 := Aside0.mk hr0
  have HC0 := Aside0.mk hc0
  clear hr0 hc0
  have HB := Aside0.mk (Below.refl w.heap.size w)
  have H : (flow_right.l0 k l0 l0 (l0.length : Int) 0) = some r := h
  clear h
  have H' := Aside0.mk H
  clear H
  go_enter Try.func32, Try.ntmps32
  go_wp2
  repeat (go_quiet (fail); try go_wp2)
  go_loopg [7] k (fun kq v7 w' => ∃ (x7_1 : Int), v7 = .int .i64 x7_1 ∧ Aside0 (flow_right.l0 kq l0 l0 (l0.length : Int) x7_1 = some r) ∧ Aside0 (kq ≤ k) ∧ Aside0 (Below w.heap.size w w'))
  case atStart => exact ⟨(0), (by first | rfl | (simp; done) | (simp [*]; done)), H', ⟨Nat.le_refl _⟩, ⟨by repeat (first | (with_reducible first | exact HB.out | apply below_alloc | apply pw_below_drewN | apply below_drew1) | exact HB.out)⟩⟩
  case round =>
    clear H'
    obtain ⟨x7_1, rfl, HA, HK1, HB⟩ := hrel
    cases gk with
    | zero => exact absurd HA.out (by simp [flow_right.l0])
    | succ k1 =>
      have H := HA.out
      clear HA
      simp only [flow_right.l0] at H
      by_cases c2 : x7_1 < (l0.length : Int)
      · rw [if_pos c2] at H
        have c2b0 : decide (x7_1 < (l0.length : Int)) = true := decide_eq_true c2
        clear c2
        by_cases c3 : 0 ≤ x7_1
        · rw [if_pos c3] at H
          have c3b0 : decide (0 ≤ x7_1) = true := decide_eq_true c3
          clear c3
          by_cases c4 : x7_1 < (l0.length : Int)
          · rw [if_pos c4] at H
            have c4b0 : decide (x7_1 < (l0.length : Int)) = true := decide_eq_true c4
            clear c4
            by_cases c5 : ((rd_T60 l0 x7_1).f0) < 0
            · rw [if_pos c5] at H
              have c5b0 : decide (((rd_T60 l0 x7_1).f0) < 0) = true := decide_eq_true c5
              clear c5
              obtain rfl := Option.some.inj H
              have p104 : 0 ≤ (x7_1 : Int) := of_decide_eq_true (by first | (with_reducible assumption) | assumption)
              have q104 : x7_1 < (l0.length : Int) := of_decide_eq_true (by first | (with_reducible assumption) | assumption)
              obtain ⟨ad104, e104, hx104_0, hx104_1⟩ := at_T60 HR0.out x7_1 p104 q104
              cases e104
              replace hx104_0 := (HB.out.cell (World.block_lt_of_cell? w _ hx104_0)).trans hx104_0
              replace hx104_1 := (HB.out.cell (World.block_lt_of_cell? w _ hx104_1)).trans hx104_1
              replace p104 := eq_true p104
              replace q104 := eq_true q104
              go_wp2_with (first | ((with_reducible refine gate_dst (N := 4) rfl ?_); refine box_event ?hg (N := 4) ?hd (cs := #[.int .i64 0, .int .i64 0]) (t := 60) ?hr ?_; (case hd => rfl); (case hg => rfl); (case hr => first | (go_simp; done) | (go_simp; rfl)); intro gb105 hg w6 hbox hb; have n0_ := Aside0.mk (below_step (by repeat (first | (with_reducible first | exact HB.out | apply below_alloc | apply pw_below_drewN | apply below_drew1) | exact HB.out)) hb); have n1_ := Aside0.mk (hbox); have n2_ := Aside0.mk ((by rw [hg]; exact (below_size (by repeat (first | (with_reducible first | exact HB.out | apply below_alloc | apply pw_below_drewN | apply below_drew1) | exact HB.out))) : w.heap.size ≤ gb105)); have n3_ := Aside0.mk ((by rw [hg]; exact (below_size (by repeat (first | (with_reducible first | exact HB.out | apply below_alloc | apply pw_below_drewN | apply below_drew1) | exact HB.out))) : w.heap.size ≤ gb105)); clear HB; have HB := n0_; have BK105 := n1_; have GW105 := n2_; have GE105 := n3_; clear n0_ n1_ n2_ n3_; clear hb hbox hg; have hcz7_0 : w6.cell? ⟨gb105, 0, none⟩ = some (.int .i64 0) := (blk_cell BK105.out 0).trans rfl; have hcz7_1 : w6.cell? ⟨gb105, 1, none⟩ = some (.int .i64 0) := (blk_cell BK105.out 1).trans rfl; have hfz7_0 := blk_frozen BK105.out 0; have hfz7_1 := blk_frozen BK105.out 1))
              repeat (go_quiet (first | ((with_reducible refine gate_dst (N := 4) rfl ?_); refine box_event ?hg (N := 4) ?hd (cs := #[.int .i64 0, .int .i64 0]) (t := 60) ?hr ?_; (case hd => rfl); (case hg => rfl); (case hr => first | (go_simp; done) | (go_simp; rfl)); intro gb105 hg w6 hbox hb; have n0_ := Aside0.mk (below_step (by repeat (first | (with_reducible first | exact HB.out | apply below_alloc | apply pw_below_drewN | apply below_drew1) | exact HB.out)) hb); have n1_ := Aside0.mk (hbox); have n2_ := Aside0.mk ((by rw [hg]; exact (below_size (by repeat (first | (with_reducible first | exact HB.out | apply below_alloc | apply pw_below_drewN | apply below_drew1) | exact HB.out))) : w.heap.size ≤ gb105)); have n3_ := Aside0.mk ((by rw [hg]; exact (below_size (by repeat (first | (with_reducible first | exact HB.out | apply below_alloc | apply pw_below_drewN | apply below_drew1) | exact HB.out))) : w.heap.size ≤ gb105)); clear HB; have HB := n0_; have BK105 := n1_; have GW105 := n2_; have GE105 := n3_; clear n0_ n1_ n2_ n3_; clear hb hbox hg; have hcz7_0 : w6.cell? ⟨gb105, 0, none⟩ = some (.int .i64 0) := (blk_cell BK105.out 0).trans rfl; have hcz7_1 : w6.cell? ⟨gb105, 1, none⟩ = some (.int .i64 0) := (blk_cell BK105.out 1).trans rfl; have hfz7_0 := blk_frozen BK105.out 0; have hfz7_1 := blk_frozen BK105.out 1)); try go_wp2_with (first | ((with_reducible refine gate_dst (N := 4) rfl ?_); refine box_event ?hg (N := 4) ?hd (cs := #[.int .i64 0, .int .i64 0]) (t := 60) ?hr ?_; (case hd => rfl); (case hg => rfl); (case hr => first | (go_simp; done) | (go_simp; rfl)); intro gb105 hg w6 hbox hb; have n0_ := Aside0.mk (below_step (by repeat (first | (with_reducible first | exact HB.out | apply below_alloc | apply pw_below_drewN | apply below_drew1) | exact HB.out)) hb); have n1_ := Aside0.mk (hbox); have n2_ := Aside0.mk ((by rw [hg]; exact (below_size (by repeat (first | (with_reducible first | exact HB.out | apply below_alloc | apply pw_below_drewN | apply below_drew1) | exact HB.out))) : w.heap.size ≤ gb105)); have n3_ := Aside0.mk ((by rw [hg]; exact (below_size (by repeat (first | (with_reducible first | exact HB.out | apply below_alloc | apply pw_below_drewN | apply below_drew1) | exact HB.out))) : w.heap.size ≤ gb105)); clear HB; have HB := n0_; have BK105 := n1_; have GW105 := n2_; have GE105 := n3_; clear n0_ n1_ n2_ n3_; clear hb hbox hg; have hcz7_0 : w6.cell? ⟨gb105, 0, none⟩ = some (.int .i64 0) := (blk_cell BK105.out 0).trans rfl; have hcz7_1 : w6.cell? ⟨gb105, 1, none⟩ = some (.int .i64 0) := (blk_cell BK105.out 1).trans rfl; have hfz7_0 := blk_frozen BK105.out 0; have hfz7_1 := blk_frozen BK105.out 1)))
              go_ret
              exact ⟨by first | rfl | (simp [errW_none, errW_some] <;> rfl) | (simp [*, errW_none, errW_some] <;> rfl), by repeat (first | (with_reducible first | exact HB.out | apply below_alloc | apply pw_below_drewN | apply below_drew1 | refine below_set ?_ GE105.out) | exact HB.out)⟩
            · rw [if_neg c5] at H
              have c5b0 : decide (((rd_T60 l0 x7_1).f0) < 0) = false := decide_eq_false c5
              clear c5
              by_cases c8 : x7_1 > 0
              · rw [if_pos c8] at H
                have c8b0 : decide (0 < x7_1) = true := decide_eq_true c8
                clear c8
                obtain ⟨ji9, hji9⟩ : ∃ j_ : Int, (wrap64 (x7_1 - 1)) = j_ := ⟨_, rfl⟩
                replace H : (if 0 ≤ (ji9) then (if (ji9) < (l0.length : Int) then (if ((rd_T60 l0 (ji9)).f0) ≥ ((rd_T60 l0 x7_1).f0) then (some false) else (if ((rd_T60 l0 x7_1).f1) < 0 then (some false) else (if ((rd_T60 l0 x7_1).f1) > 5 then (some false) else (flow_right.l0 k1 l0 l0 (l0.length : Int) (wrap64 (x7_1 + 1)))))) else (none)) else (none)) = some r := by first | (rw [hji9] at H; exact H) | (simp only [hji9] at H ⊢; exact H)
                have hji9w : (IntKind.i64.wrap (x7_1 - 1)) = ji9 := (i64_w _).trans hji9
                by_cases c10 : 0 ≤ (ji9)
                · rw [if_pos c10] at H
                  have c10b0 : decide (0 ≤ (ji9)) = true := decide_eq_true c10
                  clear c10
                  by_cases c11 : (ji9) < (l0.length : Int)
                  · rw [if_pos c11] at H
                    have c11b0 : decide ((ji9) < (l0.length : Int)) = true := decide_eq_true c11
                    clear c11
                    by_cases c12 : ((rd_T60 l0 (ji9)).f0) ≥ ((rd_T60 l0 x7_1).f0)
                    · rw [if_pos c12] at H
                      have c12b0 : decide (((rd_T60 l0 x7_1).f0) ≤ ((rd_T60 l0 (ji9)).f0)) = true := decide_eq_true c12
                      clear c12
                      obtain rfl := Option.some.inj H
                      have p104 : 0 ≤ (x7_1 : Int) := of_decide_eq_true (by first | (with_reducible assumption) | assumption)
                      have q104 : x7_1 < (l0.length : Int) := of_decide_eq_true (by first | (with_reducible assumption) | assumption)
                      obtain ⟨ad104, e104, hx104_0, hx104_1⟩ := at_T60 HR0.out x7_1 p104 q104
                      cases e104
                      replace hx104_0 := (HB.out.cell (World.block_lt_of_cell? w _ hx104_0)).trans hx104_0
                      replace hx104_1 := (HB.out.cell (World.block_lt_of_cell? w _ hx104_1)).trans hx104_1
                      replace p104 := eq_true p104
                      replace q104 := eq_true q104
                      go_wp2_with (first | ((with_reducible refine gate_dst (N := 4) rfl ?_); refine box_event ?hg (N := 4) ?hd (cs := #[.int .i64 0, .int .i64 0]) (t := 60) ?hr ?_; (case hd => rfl); (case hg => rfl); (case hr => first | (go_simp; done) | (go_simp; rfl)); intro gb105 hg w13 hbox hb; have n0_ := Aside0.mk (below_step (by repeat (first | (with_reducible first | exact HB.out | apply below_alloc | apply pw_below_drewN | apply below_drew1) | exact HB.out)) hb); have n1_ := Aside0.mk (hbox); have n2_ := Aside0.mk ((by rw [hg]; exact (below_size (by repeat (first | (with_reducible first | exact HB.out | apply below_alloc | apply pw_below_drewN | apply below_drew1) | exact HB.out))) : w.heap.size ≤ gb105)); have n3_ := Aside0.mk ((by rw [hg]; exact (below_size (by repeat (first | (with_reducible first | exact HB.out | apply below_alloc | apply pw_below_drewN | apply below_drew1) | exact HB.out))) : w.heap.size ≤ gb105)); clear HB; have HB := n0_; have BK105 := n1_; have GW105 := n2_; have GE105 := n3_; clear n0_ n1_ n2_ n3_; clear hb hbox hg; have hcz14_0 : w13.cell? ⟨gb105, 0, none⟩ = some (.int .i64 0) := (blk_cell BK105.out 0).trans rfl; have hcz14_1 : w13.cell? ⟨gb105, 1, none⟩ = some (.int .i64 0) := (blk_cell BK105.out 1).trans rfl; have hfz14_0 := blk_frozen BK105.out 0; have hfz14_1 := blk_frozen BK105.out 1; have p106 : 0 ≤ ((ji9) : Int) := of_decide_eq_true (by first | (with_reducible assumption) | assumption); have q106 : (ji9) < (l0.length : Int) := of_decide_eq_true (by first | (with_reducible assumption) | assumption); obtain ⟨ad106, e106, hx106_0, hx106_1⟩ := at_T60 HR0.out (ji9) p106 q106; obtain rfl : ad104 = ad106 := (by injection e106); have hn106_0 : ad104.block ≠ gb105 := Nat.ne_of_lt (Nat.lt_of_lt_of_le (by have := World.block_lt_of_cell? _ _ hx106_0; first | rwa [add_block] at this | exact this) GW105.out); have hn106_1 : ad104.block ≠ gb105 := Nat.ne_of_lt (Nat.lt_of_lt_of_le (by have := World.block_lt_of_cell? _ _ hx106_0; first | rwa [add_block] at this | exact this) GW105.out); replace hx106_0 := (HB.out.cell (World.block_lt_of_cell? w _ hx106_0)).trans hx106_0; replace hx106_1 := (HB.out.cell (World.block_lt_of_cell? w _ hx106_1)).trans hx106_1; replace hx106_0 := (cell_far (p := ⟨gb105, 0, none⟩) (by first | (rw [add_block]; exact hn106_0) | (show (Addr.add _ _).block ≠ _; rw [add_block]; exact hn106_0) | exact hn106_0) (.int .i64 ((rd_T60 l0 x7_1).f0))).trans hx106_0; replace hx106_1 := (cell_far (p := ⟨gb105, 0, none⟩) (by first | (rw [add_block]; exact hn106_0) | (show (Addr.add _ _).block ≠ _; rw [add_block]; exact hn106_0) | exact hn106_0) (.int .i64 ((rd_T60 l0 x7_1).f0))).trans hx106_1; replace hx106_0 := (cell_far (p := ⟨gb105, 1, none⟩) (by first | (rw [add_block]; exact hn106_1) | (show (Addr.add _ _).block ≠ _; rw [add_block]; exact hn106_1) | exact hn106_1) (.int .i64 ((rd_T60 l0 x7_1).f1))).trans hx106_0; replace hx106_1 := (cell_far (p := ⟨gb105, 1, none⟩) (by first | (rw [add_block]; exact hn106_1) | (show (Addr.add _ _).block ≠ _; rw [add_block]; exact hn106_1) | exact hn106_1) (.int .i64 ((rd_T60 l0 x7_1).f1))).trans hx106_1; (try have hy106_0 := fun (n_ : Nat) => (show ((((w13.drewN n_).setCell ⟨gb105, 0, none⟩ (.int .i64 ((rd_T60 l0 x7_1).f0))).setCell ⟨gb105, 1, none⟩ (.int .i64 ((rd_T60 l0 x7_1).f1)))).cell? _ = some _ from hx106_0)); (try have hy106_1 := fun (n_ : Nat) => (show ((((w13.drewN n_).setCell ⟨gb105, 0, none⟩ (.int .i64 ((rd_T60 l0 x7_1).f0))).setCell ⟨gb105, 1, none⟩ (.int .i64 ((rd_T60 l0 x7_1).f1)))).cell? _ = some _ from hx106_1)); clear hn106_0; clear hn106_1; replace p106 := eq_true p106; replace q106 := eq_true q106))
                      repeat (go_quiet (first | ((with_reducible refine gate_dst (N := 4) rfl ?_); refine box_event ?hg (N := 4) ?hd (cs := #[.int .i64 0, .int .i64 0]) (t := 60) ?hr ?_; (case hd => rfl); (case hg => rfl); (case hr => first | (go_simp; done) | (go_simp; rfl)); intro gb105 hg w13 hbox hb; have n0_ := Aside0.mk (below_step (by repeat (first | (with_reducible first | exact HB.out | apply below_alloc | apply pw_below_drewN | apply below_drew1) | exact HB.out)) hb); have n1_ := Aside0.mk (hbox); have n2_ := Aside0.mk ((by rw [hg]; exact (below_size (by repeat (first | (with_reducible first | exact HB.out | apply below_alloc | apply pw_below_drewN | apply below_drew1) | exact HB.out))) : w.heap.size ≤ gb105)); have n3_ := Aside0.mk ((by rw [hg]; exact (below_size (by repeat (first | (with_reducible first | exact HB.out | apply below_alloc | apply pw_below_drewN | apply below_drew1) | exact HB.out))) : w.heap.size ≤ gb105)); clear HB; have HB := n0_; have BK105 := n1_; have GW105 := n2_; have GE105 := n3_; clear n0_ n1_ n2_ n3_; clear hb hbox hg; have hcz14_0 : w13.cell? ⟨gb105, 0, none⟩ = some (.int .i64 0) := (blk_cell BK105.out 0).trans rfl; have hcz14_1 : w13.cell? ⟨gb105, 1, none⟩ = some (.int .i64 0) := (blk_cell BK105.out 1).trans rfl; have hfz14_0 := blk_frozen BK105.out 0; have hfz14_1 := blk_frozen BK105.out 1; have p106 : 0 ≤ ((ji9) : Int) := of_decide_eq_true (by first | (with_reducible assumption) | assumption); have q106 : (ji9) < (l0.length : Int) := of_decide_eq_true (by first | (with_reducible assumption) | assumption); obtain ⟨ad106, e106, hx106_0, hx106_1⟩ := at_T60 HR0.out (ji9) p106 q106; obtain rfl : ad104 = ad106 := (by injection e106); have hn106_0 : ad104.block ≠ gb105 := Nat.ne_of_lt (Nat.lt_of_lt_of_le (by have := World.block_lt_of_cell? _ _ hx106_0; first | rwa [add_block] at this | exact this) GW105.out); have hn106_1 : ad104.block ≠ gb105 := Nat.ne_of_lt (Nat.lt_of_lt_of_le (by have := World.block_lt_of_cell? _ _ hx106_0; first | rwa [add_block] at this | exact this) GW105.out); replace hx106_0 := (HB.out.cell (World.block_lt_of_cell? w _ hx106_0)).trans hx106_0; replace hx106_1 := (HB.out.cell (World.block_lt_of_cell? w _ hx106_1)).trans hx106_1; replace hx106_0 := (cell_far (p := ⟨gb105, 0, none⟩) (by first | (rw [add_block]; exact hn106_0) | (show (Addr.add _ _).block ≠ _; rw [add_block]; exact hn106_0) | exact hn106_0) (.int .i64 ((rd_T60 l0 x7_1).f0))).trans hx106_0; replace hx106_1 := (cell_far (p := ⟨gb105, 0, none⟩) (by first | (rw [add_block]; exact hn106_0) | (show (Addr.add _ _).block ≠ _; rw [add_block]; exact hn106_0) | exact hn106_0) (.int .i64 ((rd_T60 l0 x7_1).f0))).trans hx106_1; replace hx106_0 := (cell_far (p := ⟨gb105, 1, none⟩) (by first | (rw [add_block]; exact hn106_1) | (show (Addr.add _ _).block ≠ _; rw [add_block]; exact hn106_1) | exact hn106_1) (.int .i64 ((rd_T60 l0 x7_1).f1))).trans hx106_0; replace hx106_1 := (cell_far (p := ⟨gb105, 1, none⟩) (by first | (rw [add_block]; exact hn106_1) | (show (Addr.add _ _).block ≠ _; rw [add_block]; exact hn106_1) | exact hn106_1) (.int .i64 ((rd_T60 l0 x7_1).f1))).trans hx106_1; (try have hy106_0 := fun (n_ : Nat) => (show ((((w13.drewN n_).setCell ⟨gb105, 0, none⟩ (.int .i64 ((rd_T60 l0 x7_1).f0))).setCell ⟨gb105, 1, none⟩ (.int .i64 ((rd_T60 l0 x7_1).f1)))).cell? _ = some _ from hx106_0)); (try have hy106_1 := fun (n_ : Nat) => (show ((((w13.drewN n_).setCell ⟨gb105, 0, none⟩ (.int .i64 ((rd_T60 l0 x7_1).f0))).setCell ⟨gb105, 1, none⟩ (.int .i64 ((rd_T60 l0 x7_1).f1)))).cell? _ = some _ from hx106_1)); clear hn106_0; clear hn106_1; replace p106 := eq_true p106; replace q106 := eq_true q106)); try go_wp2_with (first | ((with_reducible refine gate_dst (N := 4) rfl ?_); refine box_event ?hg (N := 4) ?hd (cs := #[.int .i64 0, .int .i64 0]) (t := 60) ?hr ?_; (case hd => rfl); (case hg => rfl); (case hr => first | (go_simp; done) | (go_simp; rfl)); intro gb105 hg w13 hbox hb; have n0_ := Aside0.mk (below_step (by repeat (first | (with_reducible first | exact HB.out | apply below_alloc | apply pw_below_drewN | apply below_drew1) | exact HB.out)) hb); have n1_ := Aside0.mk (hbox); have n2_ := Aside0.mk ((by rw [hg]; exact (below_size (by repeat (first | (with_reducible first | exact HB.out | apply below_alloc | apply pw_below_drewN | apply below_drew1) | exact HB.out))) : w.heap.size ≤ gb105)); have n3_ := Aside0.mk ((by rw [hg]; exact (below_size (by repeat (first | (with_reducible first | exact HB.out | apply below_alloc | apply pw_below_drewN | apply below_drew1) | exact HB.out))) : w.heap.size ≤ gb105)); clear HB; have HB := n0_; have BK105 := n1_; have GW105 := n2_; have GE105 := n3_; clear n0_ n1_ n2_ n3_; clear hb hbox hg; have hcz14_0 : w13.cell? ⟨gb105, 0, none⟩ = some (.int .i64 0) := (blk_cell BK105.out 0).trans rfl; have hcz14_1 : w13.cell? ⟨gb105, 1, none⟩ = some (.int .i64 0) := (blk_cell BK105.out 1).trans rfl; have hfz14_0 := blk_frozen BK105.out 0; have hfz14_1 := blk_frozen BK105.out 1; have p106 : 0 ≤ ((ji9) : Int) := of_decide_eq_true (by first | (with_reducible assumption) | assumption); have q106 : (ji9) < (l0.length : Int) := of_decide_eq_true (by first | (with_reducible assumption) | assumption); obtain ⟨ad106, e106, hx106_0, hx106_1⟩ := at_T60 HR0.out (ji9) p106 q106; obtain rfl : ad104 = ad106 := (by injection e106); have hn106_0 : ad104.block ≠ gb105 := Nat.ne_of_lt (Nat.lt_of_lt_of_le (by have := World.block_lt_of_cell? _ _ hx106_0; first | rwa [add_block] at this | exact this) GW105.out); have hn106_1 : ad104.block ≠ gb105 := Nat.ne_of_lt (Nat.lt_of_lt_of_le (by have := World.block_lt_of_cell? _ _ hx106_0; first | rwa [add_block] at this | exact this) GW105.out); replace hx106_0 := (HB.out.cell (World.block_lt_of_cell? w _ hx106_0)).trans hx106_0; replace hx106_1 := (HB.out.cell (World.block_lt_of_cell? w _ hx106_1)).trans hx106_1; replace hx106_0 := (cell_far (p := ⟨gb105, 0, none⟩) (by first | (rw [add_block]; exact hn106_0) | (show (Addr.add _ _).block ≠ _; rw [add_block]; exact hn106_0) | exact hn106_0) (.int .i64 ((rd_T60 l0 x7_1).f0))).trans hx106_0; replace hx106_1 := (cell_far (p := ⟨gb105, 0, none⟩) (by first | (rw [add_block]; exact hn106_0) | (show (Addr.add _ _).block ≠ _; rw [add_block]; exact hn106_0) | exact hn106_0) (.int .i64 ((rd_T60 l0 x7_1).f0))).trans hx106_1; replace hx106_0 := (cell_far (p := ⟨gb105, 1, none⟩) (by first | (rw [add_block]; exact hn106_1) | (show (Addr.add _ _).block ≠ _; rw [add_block]; exact hn106_1) | exact hn106_1) (.int .i64 ((rd_T60 l0 x7_1).f1))).trans hx106_0; replace hx106_1 := (cell_far (p := ⟨gb105, 1, none⟩) (by first | (rw [add_block]; exact hn106_1) | (show (Addr.add _ _).block ≠ _; rw [add_block]; exact hn106_1) | exact hn106_1) (.int .i64 ((rd_T60 l0 x7_1).f1))).trans hx106_1; (try have hy106_0 := fun (n_ : Nat) => (show ((((w13.drewN n_).setCell ⟨gb105, 0, none⟩ (.int .i64 ((rd_T60 l0 x7_1).f0))).setCell ⟨gb105, 1, none⟩ (.int .i64 ((rd_T60 l0 x7_1).f1)))).cell? _ = some _ from hx106_0)); (try have hy106_1 := fun (n_ : Nat) => (show ((((w13.drewN n_).setCell ⟨gb105, 0, none⟩ (.int .i64 ((rd_T60 l0 x7_1).f0))).setCell ⟨gb105, 1, none⟩ (.int .i64 ((rd_T60 l0 x7_1).f1)))).cell? _ = some _ from hx106_1)); clear hn106_0; clear hn106_1; replace p106 := eq_true p106; replace q106 := eq_true q106)))
                      go_ret
                      exact ⟨by first | rfl | (simp [errW_none, errW_some] <;> rfl) | (simp only [← hji9]; first | rfl | (simp [errW_none, errW_some] <;> rfl)) | (simp [*, errW_none, errW_some] <;> rfl), by repeat (first | (with_reducible first | exact HB.out | apply below_alloc | apply pw_below_drewN | apply below_drew1 | refine below_set ?_ GE105.out) | exact HB.out)⟩
                    · rw [if_neg c12] at H
                      have c12b0 : decide (((rd_T60 l0 x7_1).f0) ≤ ((rd_T60 l0 (ji9)).f0)) = false := decide_eq_false c12
                      clear c12
                      by_cases c15 : ((rd_T60 l0 x7_1).f1) < 0
                      · rw [if_pos c15] at H
                        have c15b0 : decide (((rd_T60 l0 x7_1).f1) < 0) = true := decide_eq_true c15
                        clear c15
                        obtain rfl := Option.some.inj H
                        have p104 : 0 ≤ (x7_1 : Int) := of_decide_eq_true (by first | (with_reducible assumption) | assumption)
                        have q104 : x7_1 < (l0.length : Int) := of_decide_eq_true (by first | (with_reducible assumption) | assumption)
                        obtain ⟨ad104, e104, hx104_0, hx104_1⟩ := at_T60 HR0.out x7_1 p104 q104
                        cases e104
                        replace hx104_0 := (HB.out.cell (World.block_lt_of_cell? w _ hx104_0)).trans hx104_0
                        replace hx104_1 := (HB.out.cell (World.block_lt_of_cell? w _ hx104_1)).trans hx104_1
                        replace p104 := eq_true p104
                        replace q104 := eq_true q104
                        go_wp2_with (first | ((with_reducible refine gate_dst (N := 4) rfl ?_); refine box_event ?hg (N := 4) ?hd (cs := #[.int .i64 0, .int .i64 0]) (t := 60) ?hr ?_; (case hd => rfl); (case hg => rfl); (case hr => first | (go_simp; done) | (go_simp; rfl)); intro gb105 hg w16 hbox hb; have n0_ := Aside0.mk (below_step (by repeat (first | (with_reducible first | exact HB.out | apply below_alloc | apply pw_below_drewN | apply below_drew1) | exact HB.out)) hb); have n1_ := Aside0.mk (hbox); have n2_ := Aside0.mk ((by rw [hg]; exact (below_size (by repeat (first | (with_reducible first | exact HB.out | apply below_alloc | apply pw_below_drewN | apply below_drew1) | exact HB.out))) : w.heap.size ≤ gb105)); have n3_ := Aside0.mk ((by rw [hg]; exact (below_size (by repeat (first | (with_reducible first | exact HB.out | apply below_alloc | apply pw_below_drewN | apply below_drew1) | exact HB.out))) : w.heap.size ≤ gb105)); clear HB; have HB := n0_; have BK105 := n1_; have GW105 := n2_; have GE105 := n3_; clear n0_ n1_ n2_ n3_; clear hb hbox hg; have hcz17_0 : w16.cell? ⟨gb105, 0, none⟩ = some (.int .i64 0) := (blk_cell BK105.out 0).trans rfl; have hcz17_1 : w16.cell? ⟨gb105, 1, none⟩ = some (.int .i64 0) := (blk_cell BK105.out 1).trans rfl; have hfz17_0 := blk_frozen BK105.out 0; have hfz17_1 := blk_frozen BK105.out 1; have p106 : 0 ≤ ((ji9) : Int) := of_decide_eq_true (by first | (with_reducible assumption) | assumption); have q106 : (ji9) < (l0.length : Int) := of_decide_eq_true (by first | (with_reducible assumption) | assumption); obtain ⟨ad106, e106, hx106_0, hx106_1⟩ := at_T60 HR0.out (ji9) p106 q106; obtain rfl : ad104 = ad106 := (by injection e106); have hn106_0 : ad104.block ≠ gb105 := Nat.ne_of_lt (Nat.lt_of_lt_of_le (by have := World.block_lt_of_cell? _ _ hx106_0; first | rwa [add_block] at this | exact this) GW105.out); have hn106_1 : ad104.block ≠ gb105 := Nat.ne_of_lt (Nat.lt_of_lt_of_le (by have := World.block_lt_of_cell? _ _ hx106_0; first | rwa [add_block] at this | exact this) GW105.out); replace hx106_0 := (HB.out.cell (World.block_lt_of_cell? w _ hx106_0)).trans hx106_0; replace hx106_1 := (HB.out.cell (World.block_lt_of_cell? w _ hx106_1)).trans hx106_1; replace hx106_0 := (cell_far (p := ⟨gb105, 0, none⟩) (by first | (rw [add_block]; exact hn106_0) | (show (Addr.add _ _).block ≠ _; rw [add_block]; exact hn106_0) | exact hn106_0) (.int .i64 ((rd_T60 l0 x7_1).f0))).trans hx106_0; replace hx106_1 := (cell_far (p := ⟨gb105, 0, none⟩) (by first | (rw [add_block]; exact hn106_0) | (show (Addr.add _ _).block ≠ _; rw [add_block]; exact hn106_0) | exact hn106_0) (.int .i64 ((rd_T60 l0 x7_1).f0))).trans hx106_1; replace hx106_0 := (cell_far (p := ⟨gb105, 1, none⟩) (by first | (rw [add_block]; exact hn106_1) | (show (Addr.add _ _).block ≠ _; rw [add_block]; exact hn106_1) | exact hn106_1) (.int .i64 ((rd_T60 l0 x7_1).f1))).trans hx106_0; replace hx106_1 := (cell_far (p := ⟨gb105, 1, none⟩) (by first | (rw [add_block]; exact hn106_1) | (show (Addr.add _ _).block ≠ _; rw [add_block]; exact hn106_1) | exact hn106_1) (.int .i64 ((rd_T60 l0 x7_1).f1))).trans hx106_1; (try have hy106_0 := fun (n_ : Nat) => (show ((((w16.drewN n_).setCell ⟨gb105, 0, none⟩ (.int .i64 ((rd_T60 l0 x7_1).f0))).setCell ⟨gb105, 1, none⟩ (.int .i64 ((rd_T60 l0 x7_1).f1)))).cell? _ = some _ from hx106_0)); (try have hy106_1 := fun (n_ : Nat) => (show ((((w16.drewN n_).setCell ⟨gb105, 0, none⟩ (.int .i64 ((rd_T60 l0 x7_1).f0))).setCell ⟨gb105, 1, none⟩ (.int .i64 ((rd_T60 l0 x7_1).f1)))).cell? _ = some _ from hx106_1)); clear hn106_0; clear hn106_1; replace p106 := eq_true p106; replace q106 := eq_true q106))
                        repeat (go_quiet (first | ((with_reducible refine gate_dst (N := 4) rfl ?_); refine box_event ?hg (N := 4) ?hd (cs := #[.int .i64 0, .int .i64 0]) (t := 60) ?hr ?_; (case hd => rfl); (case hg => rfl); (case hr => first | (go_simp; done) | (go_simp; rfl)); intro gb105 hg w16 hbox hb; have n0_ := Aside0.mk (below_step (by repeat (first | (with_reducible first | exact HB.out | apply below_alloc | apply pw_below_drewN | apply below_drew1) | exact HB.out)) hb); have n1_ := Aside0.mk (hbox); have n2_ := Aside0.mk ((by rw [hg]; exact (below_size (by repeat (first | (with_reducible first | exact HB.out | apply below_alloc | apply pw_below_drewN | apply below_drew1) | exact HB.out))) : w.heap.size ≤ gb105)); have n3_ := Aside0.mk ((by rw [hg]; exact (below_size (by repeat (first | (with_reducible first | exact HB.out | apply below_alloc | apply pw_below_drewN | apply below_drew1) | exact HB.out))) : w.heap.size ≤ gb105)); clear HB; have HB := n0_; have BK105 := n1_; have GW105 := n2_; have GE105 := n3_; clear n0_ n1_ n2_ n3_; clear hb hbox hg; have hcz17_0 : w16.cell? ⟨gb105, 0, none⟩ = some (.int .i64 0) := (blk_cell BK105.out 0).trans rfl; have hcz17_1 : w16.cell? ⟨gb105, 1, none⟩ = some (.int .i64 0) := (blk_cell BK105.out 1).trans rfl; have hfz17_0 := blk_frozen BK105.out 0; have hfz17_1 := blk_frozen BK105.out 1; have p106 : 0 ≤ ((ji9) : Int) := of_decide_eq_true (by first | (with_reducible assumption) | assumption); have q106 : (ji9) < (l0.length : Int) := of_decide_eq_true (by first | (with_reducible assumption) | assumption); obtain ⟨ad106, e106, hx106_0, hx106_1⟩ := at_T60 HR0.out (ji9) p106 q106; obtain rfl : ad104 = ad106 := (by injection e106); have hn106_0 : ad104.block ≠ gb105 := Nat.ne_of_lt (Nat.lt_of_lt_of_le (by have := World.block_lt_of_cell? _ _ hx106_0; first | rwa [add_block] at this | exact this) GW105.out); have hn106_1 : ad104.block ≠ gb105 := Nat.ne_of_lt (Nat.lt_of_lt_of_le (by have := World.block_lt_of_cell? _ _ hx106_0; first | rwa [add_block] at this | exact this) GW105.out); replace hx106_0 := (HB.out.cell (World.block_lt_of_cell? w _ hx106_0)).trans hx106_0; replace hx106_1 := (HB.out.cell (World.block_lt_of_cell? w _ hx106_1)).trans hx106_1; replace hx106_0 := (cell_far (p := ⟨gb105, 0, none⟩) (by first | (rw [add_block]; exact hn106_0) | (show (Addr.add _ _).block ≠ _; rw [add_block]; exact hn106_0) | exact hn106_0) (.int .i64 ((rd_T60 l0 x7_1).f0))).trans hx106_0; replace hx106_1 := (cell_far (p := ⟨gb105, 0, none⟩) (by first | (rw [add_block]; exact hn106_0) | (show (Addr.add _ _).block ≠ _; rw [add_block]; exact hn106_0) | exact hn106_0) (.int .i64 ((rd_T60 l0 x7_1).f0))).trans hx106_1; replace hx106_0 := (cell_far (p := ⟨gb105, 1, none⟩) (by first | (rw [add_block]; exact hn106_1) | (show (Addr.add _ _).block ≠ _; rw [add_block]; exact hn106_1) | exact hn106_1) (.int .i64 ((rd_T60 l0 x7_1).f1))).trans hx106_0; replace hx106_1 := (cell_far (p := ⟨gb105, 1, none⟩) (by first | (rw [add_block]; exact hn106_1) | (show (Addr.add _ _).block ≠ _; rw [add_block]; exact hn106_1) | exact hn106_1) (.int .i64 ((rd_T60 l0 x7_1).f1))).trans hx106_1; (try have hy106_0 := fun (n_ : Nat) => (show ((((w16.drewN n_).setCell ⟨gb105, 0, none⟩ (.int .i64 ((rd_T60 l0 x7_1).f0))).setCell ⟨gb105, 1, none⟩ (.int .i64 ((rd_T60 l0 x7_1).f1)))).cell? _ = some _ from hx106_0)); (try have hy106_1 := fun (n_ : Nat) => (show ((((w16.drewN n_).setCell ⟨gb105, 0, none⟩ (.int .i64 ((rd_T60 l0 x7_1).f0))).setCell ⟨gb105, 1, none⟩ (.int .i64 ((rd_T60 l0 x7_1).f1)))).cell? _ = some _ from hx106_1)); clear hn106_0; clear hn106_1; replace p106 := eq_true p106; replace q106 := eq_true q106)); try go_wp2_with (first | ((with_reducible refine gate_dst (N := 4) rfl ?_); refine box_event ?hg (N := 4) ?hd (cs := #[.int .i64 0, .int .i64 0]) (t := 60) ?hr ?_; (case hd => rfl); (case hg => rfl); (case hr => first | (go_simp; done) | (go_simp; rfl)); intro gb105 hg w16 hbox hb; have n0_ := Aside0.mk (below_step (by repeat (first | (with_reducible first | exact HB.out | apply below_alloc | apply pw_below_drewN | apply below_drew1) | exact HB.out)) hb); have n1_ := Aside0.mk (hbox); have n2_ := Aside0.mk ((by rw [hg]; exact (below_size (by repeat (first | (with_reducible first | exact HB.out | apply below_alloc | apply pw_below_drewN | apply below_drew1) | exact HB.out))) : w.heap.size ≤ gb105)); have n3_ := Aside0.mk ((by rw [hg]; exact (below_size (by repeat (first | (with_reducible first | exact HB.out | apply below_alloc | apply pw_below_drewN | apply below_drew1) | exact HB.out))) : w.heap.size ≤ gb105)); clear HB; have HB := n0_; have BK105 := n1_; have GW105 := n2_; have GE105 := n3_; clear n0_ n1_ n2_ n3_; clear hb hbox hg; have hcz17_0 : w16.cell? ⟨gb105, 0, none⟩ = some (.int .i64 0) := (blk_cell BK105.out 0).trans rfl; have hcz17_1 : w16.cell? ⟨gb105, 1, none⟩ = some (.int .i64 0) := (blk_cell BK105.out 1).trans rfl; have hfz17_0 := blk_frozen BK105.out 0; have hfz17_1 := blk_frozen BK105.out 1; have p106 : 0 ≤ ((ji9) : Int) := of_decide_eq_true (by first | (with_reducible assumption) | assumption); have q106 : (ji9) < (l0.length : Int) := of_decide_eq_true (by first | (with_reducible assumption) | assumption); obtain ⟨ad106, e106, hx106_0, hx106_1⟩ := at_T60 HR0.out (ji9) p106 q106; obtain rfl : ad104 = ad106 := (by injection e106); have hn106_0 : ad104.block ≠ gb105 := Nat.ne_of_lt (Nat.lt_of_lt_of_le (by have := World.block_lt_of_cell? _ _ hx106_0; first | rwa [add_block] at this | exact this) GW105.out); have hn106_1 : ad104.block ≠ gb105 := Nat.ne_of_lt (Nat.lt_of_lt_of_le (by have := World.block_lt_of_cell? _ _ hx106_0; first | rwa [add_block] at this | exact this) GW105.out); replace hx106_0 := (HB.out.cell (World.block_lt_of_cell? w _ hx106_0)).trans hx106_0; replace hx106_1 := (HB.out.cell (World.block_lt_of_cell? w _ hx106_1)).trans hx106_1; replace hx106_0 := (cell_far (p := ⟨gb105, 0, none⟩) (by first | (rw [add_block]; exact hn106_0) | (show (Addr.add _ _).block ≠ _; rw [add_block]; exact hn106_0) | exact hn106_0) (.int .i64 ((rd_T60 l0 x7_1).f0))).trans hx106_0; replace hx106_1 := (cell_far (p := ⟨gb105, 0, none⟩) (by first | (rw [add_block]; exact hn106_0) | (show (Addr.add _ _).block ≠ _; rw [add_block]; exact hn106_0) | exact hn106_0) (.int .i64 ((rd_T60 l0 x7_1).f0))).trans hx106_1; replace hx106_0 := (cell_far (p := ⟨gb105, 1, none⟩) (by first | (rw [add_block]; exact hn106_1) | (show (Addr.add _ _).block ≠ _; rw [add_block]; exact hn106_1) | exact hn106_1) (.int .i64 ((rd_T60 l0 x7_1).f1))).trans hx106_0; replace hx106_1 := (cell_far (p := ⟨gb105, 1, none⟩) (by first | (rw [add_block]; exact hn106_1) | (show (Addr.add _ _).block ≠ _; rw [add_block]; exact hn106_1) | exact hn106_1) (.int .i64 ((rd_T60 l0 x7_1).f1))).trans hx106_1; (try have hy106_0 := fun (n_ : Nat) => (show ((((w16.drewN n_).setCell ⟨gb105, 0, none⟩ (.int .i64 ((rd_T60 l0 x7_1).f0))).setCell ⟨gb105, 1, none⟩ (.int .i64 ((rd_T60 l0 x7_1).f1)))).cell? _ = some _ from hx106_0)); (try have hy106_1 := fun (n_ : Nat) => (show ((((w16.drewN n_).setCell ⟨gb105, 0, none⟩ (.int .i64 ((rd_T60 l0 x7_1).f0))).setCell ⟨gb105, 1, none⟩ (.int .i64 ((rd_T60 l0 x7_1).f1)))).cell? _ = some _ from hx106_1)); clear hn106_0; clear hn106_1; replace p106 := eq_true p106; replace q106 := eq_true q106)))
                        go_ret
                        exact ⟨by first | rfl | (simp [errW_none, errW_some] <;> rfl) | (simp only [← hji9]; first | rfl | (simp [errW_none, errW_some] <;> rfl)) | (simp [*, errW_none, errW_some] <;> rfl), by repeat (first | (with_reducible first | exact HB.out | apply below_alloc | apply pw_below_drewN | apply below_drew1 | refine below_set ?_ GE105.out) | exact HB.out)⟩
                      · rw [if_neg c15] at H
                        have c15b0 : decide (((rd_T60 l0 x7_1).f1) < 0) = false := decide_eq_false c15
                        clear c15
                        by_cases c18 : ((rd_T60 l0 x7_1).f1) > 5
                        · rw [if_pos c18] at H
                          have c18b0 : decide (5 < ((rd_T60 l0 x7_1).f1)) = true := decide_eq_true c18
                          clear c18
                          obtain rfl := Option.some.inj H
                          have p104 : 0 ≤ (x7_1 : Int) := of_decide_eq_true (by first | (with_reducible assumption) | assumption)
                          have q104 : x7_1 < (l0.length : Int) := of_decide_eq_true (by first | (with_reducible assumption) | assumption)
                          obtain ⟨ad104, e104, hx104_0, hx104_1⟩ := at_T60 HR0.out x7_1 p104 q104
                          cases e104
                          replace hx104_0 := (HB.out.cell (World.block_lt_of_cell? w _ hx104_0)).trans hx104_0
                          replace hx104_1 := (HB.out.cell (World.block_lt_of_cell? w _ hx104_1)).trans hx104_1
                          replace p104 := eq_true p104
                          replace q104 := eq_true q104
                          go_wp2_with (first | ((with_reducible refine gate_dst (N := 4) rfl ?_); refine box_event ?hg (N := 4) ?hd (cs := #[.int .i64 0, .int .i64 0]) (t := 60) ?hr ?_; (case hd => rfl); (case hg => rfl); (case hr => first | (go_simp; done) | (go_simp; rfl)); intro gb105 hg w19 hbox hb; have n0_ := Aside0.mk (below_step (by repeat (first | (with_reducible first | exact HB.out | apply below_alloc | apply pw_below_drewN | apply below_drew1) | exact HB.out)) hb); have n1_ := Aside0.mk (hbox); have n2_ := Aside0.mk ((by rw [hg]; exact (below_size (by repeat (first | (with_reducible first | exact HB.out | apply below_alloc | apply pw_below_drewN | apply below_drew1) | exact HB.out))) : w.heap.size ≤ gb105)); have n3_ := Aside0.mk ((by rw [hg]; exact (below_size (by repeat (first | (with_reducible first | exact HB.out | apply below_alloc | apply pw_below_drewN | apply below_drew1) | exact HB.out))) : w.heap.size ≤ gb105)); clear HB; have HB := n0_; have BK105 := n1_; have GW105 := n2_; have GE105 := n3_; clear n0_ n1_ n2_ n3_; clear hb hbox hg; have hcz20_0 : w19.cell? ⟨gb105, 0, none⟩ = some (.int .i64 0) := (blk_cell BK105.out 0).trans rfl; have hcz20_1 : w19.cell? ⟨gb105, 1, none⟩ = some (.int .i64 0) := (blk_cell BK105.out 1).trans rfl; have hfz20_0 := blk_frozen BK105.out 0; have hfz20_1 := blk_frozen BK105.out 1; have p106 : 0 ≤ ((ji9) : Int) := of_decide_eq_true (by first | (with_reducible assumption) | assumption); have q106 : (ji9) < (l0.length : Int) := of_decide_eq_true (by first | (with_reducible assumption) | assumption); obtain ⟨ad106, e106, hx106_0, hx106_1⟩ := at_T60 HR0.out (ji9) p106 q106; obtain rfl : ad104 = ad106 := (by injection e106); have hn106_0 : ad104.block ≠ gb105 := Nat.ne_of_lt (Nat.lt_of_lt_of_le (by have := World.block_lt_of_cell? _ _ hx106_0; first | rwa [add_block] at this | exact this) GW105.out); have hn106_1 : ad104.block ≠ gb105 := Nat.ne_of_lt (Nat.lt_of_lt_of_le (by have := World.block_lt_of_cell? _ _ hx106_0; first | rwa [add_block] at this | exact this) GW105.out); replace hx106_0 := (HB.out.cell (World.block_lt_of_cell? w _ hx106_0)).trans hx106_0; replace hx106_1 := (HB.out.cell (World.block_lt_of_cell? w _ hx106_1)).trans hx106_1; replace hx106_0 := (cell_far (p := ⟨gb105, 0, none⟩) (by first | (rw [add_block]; exact hn106_0) | (show (Addr.add _ _).block ≠ _; rw [add_block]; exact hn106_0) | exact hn106_0) (.int .i64 ((rd_T60 l0 x7_1).f0))).trans hx106_0; replace hx106_1 := (cell_far (p := ⟨gb105, 0, none⟩) (by first | (rw [add_block]; exact hn106_0) | (show (Addr.add _ _).block ≠ _; rw [add_block]; exact hn106_0) | exact hn106_0) (.int .i64 ((rd_T60 l0 x7_1).f0))).trans hx106_1; replace hx106_0 := (cell_far (p := ⟨gb105, 1, none⟩) (by first | (rw [add_block]; exact hn106_1) | (show (Addr.add _ _).block ≠ _; rw [add_block]; exact hn106_1) | exact hn106_1) (.int .i64 ((rd_T60 l0 x7_1).f1))).trans hx106_0; replace hx106_1 := (cell_far (p := ⟨gb105, 1, none⟩) (by first | (rw [add_block]; exact hn106_1) | (show (Addr.add _ _).block ≠ _; rw [add_block]; exact hn106_1) | exact hn106_1) (.int .i64 ((rd_T60 l0 x7_1).f1))).trans hx106_1; (try have hy106_0 := fun (n_ : Nat) => (show ((((w19.drewN n_).setCell ⟨gb105, 0, none⟩ (.int .i64 ((rd_T60 l0 x7_1).f0))).setCell ⟨gb105, 1, none⟩ (.int .i64 ((rd_T60 l0 x7_1).f1)))).cell? _ = some _ from hx106_0)); (try have hy106_1 := fun (n_ : Nat) => (show ((((w19.drewN n_).setCell ⟨gb105, 0, none⟩ (.int .i64 ((rd_T60 l0 x7_1).f0))).setCell ⟨gb105, 1, none⟩ (.int .i64 ((rd_T60 l0 x7_1).f1)))).cell? _ = some _ from hx106_1)); clear hn106_0; clear hn106_1; replace p106 := eq_true p106; replace q106 := eq_true q106))
                          repeat (go_quiet (first | ((with_reducible refine gate_dst (N := 4) rfl ?_); refine box_event ?hg (N := 4) ?hd (cs := #[.int .i64 0, .int .i64 0]) (t := 60) ?hr ?_; (case hd => rfl); (case hg => rfl); (case hr => first | (go_simp; done) | (go_simp; rfl)); intro gb105 hg w19 hbox hb; have n0_ := Aside0.mk (below_step (by repeat (first | (with_reducible first | exact HB.out | apply below_alloc | apply pw_below_drewN | apply below_drew1) | exact HB.out)) hb); have n1_ := Aside0.mk (hbox); have n2_ := Aside0.mk ((by rw [hg]; exact (below_size (by repeat (first | (with_reducible first | exact HB.out | apply below_alloc | apply pw_below_drewN | apply below_drew1) | exact HB.out))) : w.heap.size ≤ gb105)); have n3_ := Aside0.mk ((by rw [hg]; exact (below_size (by repeat (first | (with_reducible first | exact HB.out | apply below_alloc | apply pw_below_drewN | apply below_drew1) | exact HB.out))) : w.heap.size ≤ gb105)); clear HB; have HB := n0_; have BK105 := n1_; have GW105 := n2_; have GE105 := n3_; clear n0_ n1_ n2_ n3_; clear hb hbox hg; have hcz20_0 : w19.cell? ⟨gb105, 0, none⟩ = some (.int .i64 0) := (blk_cell BK105.out 0).trans rfl; have hcz20_1 : w19.cell? ⟨gb105, 1, none⟩ = some (.int .i64 0) := (blk_cell BK105.out 1).trans rfl; have hfz20_0 := blk_frozen BK105.out 0; have hfz20_1 := blk_frozen BK105.out 1; have p106 : 0 ≤ ((ji9) : Int) := of_decide_eq_true (by first | (with_reducible assumption) | assumption); have q106 : (ji9) < (l0.length : Int) := of_decide_eq_true (by first | (with_reducible assumption) | assumption); obtain ⟨ad106, e106, hx106_0, hx106_1⟩ := at_T60 HR0.out (ji9) p106 q106; obtain rfl : ad104 = ad106 := (by injection e106); have hn106_0 : ad104.block ≠ gb105 := Nat.ne_of_lt (Nat.lt_of_lt_of_le (by have := World.block_lt_of_cell? _ _ hx106_0; first | rwa [add_block] at this | exact this) GW105.out); have hn106_1 : ad104.block ≠ gb105 := Nat.ne_of_lt (Nat.lt_of_lt_of_le (by have := World.block_lt_of_cell? _ _ hx106_0; first | rwa [add_block] at this | exact this) GW105.out); replace hx106_0 := (HB.out.cell (World.block_lt_of_cell? w _ hx106_0)).trans hx106_0; replace hx106_1 := (HB.out.cell (World.block_lt_of_cell? w _ hx106_1)).trans hx106_1; replace hx106_0 := (cell_far (p := ⟨gb105, 0, none⟩) (by first | (rw [add_block]; exact hn106_0) | (show (Addr.add _ _).block ≠ _; rw [add_block]; exact hn106_0) | exact hn106_0) (.int .i64 ((rd_T60 l0 x7_1).f0))).trans hx106_0; replace hx106_1 := (cell_far (p := ⟨gb105, 0, none⟩) (by first | (rw [add_block]; exact hn106_0) | (show (Addr.add _ _).block ≠ _; rw [add_block]; exact hn106_0) | exact hn106_0) (.int .i64 ((rd_T60 l0 x7_1).f0))).trans hx106_1; replace hx106_0 := (cell_far (p := ⟨gb105, 1, none⟩) (by first | (rw [add_block]; exact hn106_1) | (show (Addr.add _ _).block ≠ _; rw [add_block]; exact hn106_1) | exact hn106_1) (.int .i64 ((rd_T60 l0 x7_1).f1))).trans hx106_0; replace hx106_1 := (cell_far (p := ⟨gb105, 1, none⟩) (by first | (rw [add_block]; exact hn106_1) | (show (Addr.add _ _).block ≠ _; rw [add_block]; exact hn106_1) | exact hn106_1) (.int .i64 ((rd_T60 l0 x7_1).f1))).trans hx106_1; (try have hy106_0 := fun (n_ : Nat) => (show ((((w19.drewN n_).setCell ⟨gb105, 0, none⟩ (.int .i64 ((rd_T60 l0 x7_1).f0))).setCell ⟨gb105, 1, none⟩ (.int .i64 ((rd_T60 l0 x7_1).f1)))).cell? _ = some _ from hx106_0)); (try have hy106_1 := fun (n_ : Nat) => (show ((((w19.drewN n_).setCell ⟨gb105, 0, none⟩ (.int .i64 ((rd_T60 l0 x7_1).f0))).setCell ⟨gb105, 1, none⟩ (.int .i64 ((rd_T60 l0 x7_1).f1)))).cell? _ = some _ from hx106_1)); clear hn106_0; clear hn106_1; replace p106 := eq_true p106; replace q106 := eq_true q106)); try go_wp2_with (first | ((with_reducible refine gate_dst (N := 4) rfl ?_); refine box_event ?hg (N := 4) ?hd (cs := #[.int .i64 0, .int .i64 0]) (t := 60) ?hr ?_; (case hd => rfl); (case hg => rfl); (case hr => first | (go_simp; done) | (go_simp; rfl)); intro gb105 hg w19 hbox hb; have n0_ := Aside0.mk (below_step (by repeat (first | (with_reducible first | exact HB.out | apply below_alloc | apply pw_below_drewN | apply below_drew1) | exact HB.out)) hb); have n1_ := Aside0.mk (hbox); have n2_ := Aside0.mk ((by rw [hg]; exact (below_size (by repeat (first | (with_reducible first | exact HB.out | apply below_alloc | apply pw_below_drewN | apply below_drew1) | exact HB.out))) : w.heap.size ≤ gb105)); have n3_ := Aside0.mk ((by rw [hg]; exact (below_size (by repeat (first | (with_reducible first | exact HB.out | apply below_alloc | apply pw_below_drewN | apply below_drew1) | exact HB.out))) : w.heap.size ≤ gb105)); clear HB; have HB := n0_; have BK105 := n1_; have GW105 := n2_; have GE105 := n3_; clear n0_ n1_ n2_ n3_; clear hb hbox hg; have hcz20_0 : w19.cell? ⟨gb105, 0, none⟩ = some (.int .i64 0) := (blk_cell BK105.out 0).trans rfl; have hcz20_1 : w19.cell? ⟨gb105, 1, none⟩ = some (.int .i64 0) := (blk_cell BK105.out 1).trans rfl; have hfz20_0 := blk_frozen BK105.out 0; have hfz20_1 := blk_frozen BK105.out 1; have p106 : 0 ≤ ((ji9) : Int) := of_decide_eq_true (by first | (with_reducible assumption) | assumption); have q106 : (ji9) < (l0.length : Int) := of_decide_eq_true (by first | (with_reducible assumption) | assumption); obtain ⟨ad106, e106, hx106_0, hx106_1⟩ := at_T60 HR0.out (ji9) p106 q106; obtain rfl : ad104 = ad106 := (by injection e106); have hn106_0 : ad104.block ≠ gb105 := Nat.ne_of_lt (Nat.lt_of_lt_of_le (by have := World.block_lt_of_cell? _ _ hx106_0; first | rwa [add_block] at this | exact this) GW105.out); have hn106_1 : ad104.block ≠ gb105 := Nat.ne_of_lt (Nat.lt_of_lt_of_le (by have := World.block_lt_of_cell? _ _ hx106_0; first | rwa [add_block] at this | exact this) GW105.out); replace hx106_0 := (HB.out.cell (World.block_lt_of_cell? w _ hx106_0)).trans hx106_0; replace hx106_1 := (HB.out.cell (World.block_lt_of_cell? w _ hx106_1)).trans hx106_1; replace hx106_0 := (cell_far (p := ⟨gb105, 0, none⟩) (by first | (rw [add_block]; exact hn106_0) | (show (Addr.add _ _).block ≠ _; rw [add_block]; exact hn106_0) | exact hn106_0) (.int .i64 ((rd_T60 l0 x7_1).f0))).trans hx106_0; replace hx106_1 := (cell_far (p := ⟨gb105, 0, none⟩) (by first | (rw [add_block]; exact hn106_0) | (show (Addr.add _ _).block ≠ _; rw [add_block]; exact hn106_0) | exact hn106_0) (.int .i64 ((rd_T60 l0 x7_1).f0))).trans hx106_1; replace hx106_0 := (cell_far (p := ⟨gb105, 1, none⟩) (by first | (rw [add_block]; exact hn106_1) | (show (Addr.add _ _).block ≠ _; rw [add_block]; exact hn106_1) | exact hn106_1) (.int .i64 ((rd_T60 l0 x7_1).f1))).trans hx106_0; replace hx106_1 := (cell_far (p := ⟨gb105, 1, none⟩) (by first | (rw [add_block]; exact hn106_1) | (show (Addr.add _ _).block ≠ _; rw [add_block]; exact hn106_1) | exact hn106_1) (.int .i64 ((rd_T60 l0 x7_1).f1))).trans hx106_1; (try have hy106_0 := fun (n_ : Nat) => (show ((((w19.drewN n_).setCell ⟨gb105, 0, none⟩ (.int .i64 ((rd_T60 l0 x7_1).f0))).setCell ⟨gb105, 1, none⟩ (.int .i64 ((rd_T60 l0 x7_1).f1)))).cell? _ = some _ from hx106_0)); (try have hy106_1 := fun (n_ : Nat) => (show ((((w19.drewN n_).setCell ⟨gb105, 0, none⟩ (.int .i64 ((rd_T60 l0 x7_1).f0))).setCell ⟨gb105, 1, none⟩ (.int .i64 ((rd_T60 l0 x7_1).f1)))).cell? _ = some _ from hx106_1)); clear hn106_0; clear hn106_1; replace p106 := eq_true p106; replace q106 := eq_true q106)))
                          go_ret
                          exact ⟨by first | rfl | (simp [errW_none, errW_some] <;> rfl) | (simp only [← hji9]; first | rfl | (simp [errW_none, errW_some] <;> rfl)) | (simp [*, errW_none, errW_some] <;> rfl), by repeat (first | (with_reducible first | exact HB.out | apply below_alloc | apply pw_below_drewN | apply below_drew1 | refine below_set ?_ GE105.out) | exact HB.out)⟩
                        · rw [if_neg c18] at H
                          have c18b0 : decide (5 < ((rd_T60 l0 x7_1).f1)) = false := decide_eq_false c18
                          clear c18
                          have H' := Aside0.mk H
                          clear H
                          have p104 : 0 ≤ (x7_1 : Int) := of_decide_eq_true (by first | (with_reducible assumption) | assumption)
                          have q104 : x7_1 < (l0.length : Int) := of_decide_eq_true (by first | (with_reducible assumption) | assumption)
                          obtain ⟨ad104, e104, hx104_0, hx104_1⟩ := at_T60 HR0.out x7_1 p104 q104
                          cases e104
                          replace hx104_0 := (HB.out.cell (World.block_lt_of_cell? w _ hx104_0)).trans hx104_0
                          replace hx104_1 := (HB.out.cell (World.block_lt_of_cell? w _ hx104_1)).trans hx104_1
                          replace p104 := eq_true p104
                          replace q104 := eq_true q104
                          go_wp2_with (first | ((with_reducible refine gate_dst (N := 4) rfl ?_); refine box_event ?hg (N := 4) ?hd (cs := #[.int .i64 0, .int .i64 0]) (t := 60) ?hr ?_; (case hd => rfl); (case hg => rfl); (case hr => first | (go_simp; done) | (go_simp; rfl)); intro gb105 hg w21 hbox hb; have n0_ := Aside0.mk (below_step (by repeat (first | (with_reducible first | exact HB.out | apply below_alloc | apply pw_below_drewN | apply below_drew1) | exact HB.out)) hb); have n1_ := Aside0.mk (hbox); have n2_ := Aside0.mk ((by rw [hg]; exact (below_size (by repeat (first | (with_reducible first | exact HB.out | apply below_alloc | apply pw_below_drewN | apply below_drew1) | exact HB.out))) : w.heap.size ≤ gb105)); have n3_ := Aside0.mk ((by rw [hg]; exact (below_size (by repeat (first | (with_reducible first | exact HB.out | apply below_alloc | apply pw_below_drewN | apply below_drew1) | exact HB.out))) : w.heap.size ≤ gb105)); clear HB; have HB := n0_; have BK105 := n1_; have GW105 := n2_; have GE105 := n3_; clear n0_ n1_ n2_ n3_; clear hb hbox hg; have hcz22_0 : w21.cell? ⟨gb105, 0, none⟩ = some (.int .i64 0) := (blk_cell BK105.out 0).trans rfl; have hcz22_1 : w21.cell? ⟨gb105, 1, none⟩ = some (.int .i64 0) := (blk_cell BK105.out 1).trans rfl; have hfz22_0 := blk_frozen BK105.out 0; have hfz22_1 := blk_frozen BK105.out 1; have p106 : 0 ≤ ((ji9) : Int) := of_decide_eq_true (by first | (with_reducible assumption) | assumption); have q106 : (ji9) < (l0.length : Int) := of_decide_eq_true (by first | (with_reducible assumption) | assumption); obtain ⟨ad106, e106, hx106_0, hx106_1⟩ := at_T60 HR0.out (ji9) p106 q106; obtain rfl : ad104 = ad106 := (by injection e106); have hn106_0 : ad104.block ≠ gb105 := Nat.ne_of_lt (Nat.lt_of_lt_of_le (by have := World.block_lt_of_cell? _ _ hx106_0; first | rwa [add_block] at this | exact this) GW105.out); have hn106_1 : ad104.block ≠ gb105 := Nat.ne_of_lt (Nat.lt_of_lt_of_le (by have := World.block_lt_of_cell? _ _ hx106_0; first | rwa [add_block] at this | exact this) GW105.out); replace hx106_0 := (HB.out.cell (World.block_lt_of_cell? w _ hx106_0)).trans hx106_0; replace hx106_1 := (HB.out.cell (World.block_lt_of_cell? w _ hx106_1)).trans hx106_1; replace hx106_0 := (cell_far (p := ⟨gb105, 0, none⟩) (by first | (rw [add_block]; exact hn106_0) | (show (Addr.add _ _).block ≠ _; rw [add_block]; exact hn106_0) | exact hn106_0) (.int .i64 ((rd_T60 l0 x7_1).f0))).trans hx106_0; replace hx106_1 := (cell_far (p := ⟨gb105, 0, none⟩) (by first | (rw [add_block]; exact hn106_0) | (show (Addr.add _ _).block ≠ _; rw [add_block]; exact hn106_0) | exact hn106_0) (.int .i64 ((rd_T60 l0 x7_1).f0))).trans hx106_1; replace hx106_0 := (cell_far (p := ⟨gb105, 1, none⟩) (by first | (rw [add_block]; exact hn106_1) | (show (Addr.add _ _).block ≠ _; rw [add_block]; exact hn106_1) | exact hn106_1) (.int .i64 ((rd_T60 l0 x7_1).f1))).trans hx106_0; replace hx106_1 := (cell_far (p := ⟨gb105, 1, none⟩) (by first | (rw [add_block]; exact hn106_1) | (show (Addr.add _ _).block ≠ _; rw [add_block]; exact hn106_1) | exact hn106_1) (.int .i64 ((rd_T60 l0 x7_1).f1))).trans hx106_1; (try have hy106_0 := fun (n_ : Nat) => (show ((((w21.drewN n_).setCell ⟨gb105, 0, none⟩ (.int .i64 ((rd_T60 l0 x7_1).f0))).setCell ⟨gb105, 1, none⟩ (.int .i64 ((rd_T60 l0 x7_1).f1)))).cell? _ = some _ from hx106_0)); (try have hy106_1 := fun (n_ : Nat) => (show ((((w21.drewN n_).setCell ⟨gb105, 0, none⟩ (.int .i64 ((rd_T60 l0 x7_1).f0))).setCell ⟨gb105, 1, none⟩ (.int .i64 ((rd_T60 l0 x7_1).f1)))).cell? _ = some _ from hx106_1)); clear hn106_0; clear hn106_1; replace p106 := eq_true p106; replace q106 := eq_true q106))
                          repeat (go_quiet (first | ((with_reducible refine gate_dst (N := 4) rfl ?_); refine box_event ?hg (N := 4) ?hd (cs := #[.int .i64 0, .int .i64 0]) (t := 60) ?hr ?_; (case hd => rfl); (case hg => rfl); (case hr => first | (go_simp; done) | (go_simp; rfl)); intro gb105 hg w21 hbox hb; have n0_ := Aside0.mk (below_step (by repeat (first | (with_reducible first | exact HB.out | apply below_alloc | apply pw_below_drewN | apply below_drew1) | exact HB.out)) hb); have n1_ := Aside0.mk (hbox); have n2_ := Aside0.mk ((by rw [hg]; exact (below_size (by repeat (first | (with_reducible first | exact HB.out | apply below_alloc | apply pw_below_drewN | apply below_drew1) | exact HB.out))) : w.heap.size ≤ gb105)); have n3_ := Aside0.mk ((by rw [hg]; exact (below_size (by repeat (first | (with_reducible first | exact HB.out | apply below_alloc | apply pw_below_drewN | apply below_drew1) | exact HB.out))) : w.heap.size ≤ gb105)); clear HB; have HB := n0_; have BK105 := n1_; have GW105 := n2_; have GE105 := n3_; clear n0_ n1_ n2_ n3_; clear hb hbox hg; have hcz22_0 : w21.cell? ⟨gb105, 0, none⟩ = some (.int .i64 0) := (blk_cell BK105.out 0).trans rfl; have hcz22_1 : w21.cell? ⟨gb105, 1, none⟩ = some (.int .i64 0) := (blk_cell BK105.out 1).trans rfl; have hfz22_0 := blk_frozen BK105.out 0; have hfz22_1 := blk_frozen BK105.out 1; have p106 : 0 ≤ ((ji9) : Int) := of_decide_eq_true (by first | (with_reducible assumption) | assumption); have q106 : (ji9) < (l0.length : Int) := of_decide_eq_true (by first | (with_reducible assumption) | assumption); obtain ⟨ad106, e106, hx106_0, hx106_1⟩ := at_T60 HR0.out (ji9) p106 q106; obtain rfl : ad104 = ad106 := (by injection e106); have hn106_0 : ad104.block ≠ gb105 := Nat.ne_of_lt (Nat.lt_of_lt_of_le (by have := World.block_lt_of_cell? _ _ hx106_0; first | rwa [add_block] at this | exact this) GW105.out); have hn106_1 : ad104.block ≠ gb105 := Nat.ne_of_lt (Nat.lt_of_lt_of_le (by have := World.block_lt_of_cell? _ _ hx106_0; first | rwa [add_block] at this | exact this) GW105.out); replace hx106_0 := (HB.out.cell (World.block_lt_of_cell? w _ hx106_0)).trans hx106_0; replace hx106_1 := (HB.out.cell (World.block_lt_of_cell? w _ hx106_1)).trans hx106_1; replace hx106_0 := (cell_far (p := ⟨gb105, 0, none⟩) (by first | (rw [add_block]; exact hn106_0) | (show (Addr.add _ _).block ≠ _; rw [add_block]; exact hn106_0) | exact hn106_0) (.int .i64 ((rd_T60 l0 x7_1).f0))).trans hx106_0; replace hx106_1 := (cell_far (p := ⟨gb105, 0, none⟩) (by first | (rw [add_block]; exact hn106_0) | (show (Addr.add _ _).block ≠ _; rw [add_block]; exact hn106_0) | exact hn106_0) (.int .i64 ((rd_T60 l0 x7_1).f0))).trans hx106_1; replace hx106_0 := (cell_far (p := ⟨gb105, 1, none⟩) (by first | (rw [add_block]; exact hn106_1) | (show (Addr.add _ _).block ≠ _; rw [add_block]; exact hn106_1) | exact hn106_1) (.int .i64 ((rd_T60 l0 x7_1).f1))).trans hx106_0; replace hx106_1 := (cell_far (p := ⟨gb105, 1, none⟩) (by first | (rw [add_block]; exact hn106_1) | (show (Addr.add _ _).block ≠ _; rw [add_block]; exact hn106_1) | exact hn106_1) (.int .i64 ((rd_T60 l0 x7_1).f1))).trans hx106_1; (try have hy106_0 := fun (n_ : Nat) => (show ((((w21.drewN n_).setCell ⟨gb105, 0, none⟩ (.int .i64 ((rd_T60 l0 x7_1).f0))).setCell ⟨gb105, 1, none⟩ (.int .i64 ((rd_T60 l0 x7_1).f1)))).cell? _ = some _ from hx106_0)); (try have hy106_1 := fun (n_ : Nat) => (show ((((w21.drewN n_).setCell ⟨gb105, 0, none⟩ (.int .i64 ((rd_T60 l0 x7_1).f0))).setCell ⟨gb105, 1, none⟩ (.int .i64 ((rd_T60 l0 x7_1).f1)))).cell? _ = some _ from hx106_1)); clear hn106_0; clear hn106_1; replace p106 := eq_true p106; replace q106 := eq_true q106)); try go_wp2_with (first | ((with_reducible refine gate_dst (N := 4) rfl ?_); refine box_event ?hg (N := 4) ?hd (cs := #[.int .i64 0, .int .i64 0]) (t := 60) ?hr ?_; (case hd => rfl); (case hg => rfl); (case hr => first | (go_simp; done) | (go_simp; rfl)); intro gb105 hg w21 hbox hb; have n0_ := Aside0.mk (below_step (by repeat (first | (with_reducible first | exact HB.out | apply below_alloc | apply pw_below_drewN | apply below_drew1) | exact HB.out)) hb); have n1_ := Aside0.mk (hbox); have n2_ := Aside0.mk ((by rw [hg]; exact (below_size (by repeat (first | (with_reducible first | exact HB.out | apply below_alloc | apply pw_below_drewN | apply below_drew1) | exact HB.out))) : w.heap.size ≤ gb105)); have n3_ := Aside0.mk ((by rw [hg]; exact (below_size (by repeat (first | (with_reducible first | exact HB.out | apply below_alloc | apply pw_below_drewN | apply below_drew1) | exact HB.out))) : w.heap.size ≤ gb105)); clear HB; have HB := n0_; have BK105 := n1_; have GW105 := n2_; have GE105 := n3_; clear n0_ n1_ n2_ n3_; clear hb hbox hg; have hcz22_0 : w21.cell? ⟨gb105, 0, none⟩ = some (.int .i64 0) := (blk_cell BK105.out 0).trans rfl; have hcz22_1 : w21.cell? ⟨gb105, 1, none⟩ = some (.int .i64 0) := (blk_cell BK105.out 1).trans rfl; have hfz22_0 := blk_frozen BK105.out 0; have hfz22_1 := blk_frozen BK105.out 1; have p106 : 0 ≤ ((ji9) : Int) := of_decide_eq_true (by first | (with_reducible assumption) | assumption); have q106 : (ji9) < (l0.length : Int) := of_decide_eq_true (by first | (with_reducible assumption) | assumption); obtain ⟨ad106, e106, hx106_0, hx106_1⟩ := at_T60 HR0.out (ji9) p106 q106; obtain rfl : ad104 = ad106 := (by injection e106); have hn106_0 : ad104.block ≠ gb105 := Nat.ne_of_lt (Nat.lt_of_lt_of_le (by have := World.block_lt_of_cell? _ _ hx106_0; first | rwa [add_block] at this | exact this) GW105.out); have hn106_1 : ad104.block ≠ gb105 := Nat.ne_of_lt (Nat.lt_of_lt_of_le (by have := World.block_lt_of_cell? _ _ hx106_0; first | rwa [add_block] at this | exact this) GW105.out); replace hx106_0 := (HB.out.cell (World.block_lt_of_cell? w _ hx106_0)).trans hx106_0; replace hx106_1 := (HB.out.cell (World.block_lt_of_cell? w _ hx106_1)).trans hx106_1; replace hx106_0 := (cell_far (p := ⟨gb105, 0, none⟩) (by first | (rw [add_block]; exact hn106_0) | (show (Addr.add _ _).block ≠ _; rw [add_block]; exact hn106_0) | exact hn106_0) (.int .i64 ((rd_T60 l0 x7_1).f0))).trans hx106_0; replace hx106_1 := (cell_far (p := ⟨gb105, 0, none⟩) (by first | (rw [add_block]; exact hn106_0) | (show (Addr.add _ _).block ≠ _; rw [add_block]; exact hn106_0) | exact hn106_0) (.int .i64 ((rd_T60 l0 x7_1).f0))).trans hx106_1; replace hx106_0 := (cell_far (p := ⟨gb105, 1, none⟩) (by first | (rw [add_block]; exact hn106_1) | (show (Addr.add _ _).block ≠ _; rw [add_block]; exact hn106_1) | exact hn106_1) (.int .i64 ((rd_T60 l0 x7_1).f1))).trans hx106_0; replace hx106_1 := (cell_far (p := ⟨gb105, 1, none⟩) (by first | (rw [add_block]; exact hn106_1) | (show (Addr.add _ _).block ≠ _; rw [add_block]; exact hn106_1) | exact hn106_1) (.int .i64 ((rd_T60 l0 x7_1).f1))).trans hx106_1; (try have hy106_0 := fun (n_ : Nat) => (show ((((w21.drewN n_).setCell ⟨gb105, 0, none⟩ (.int .i64 ((rd_T60 l0 x7_1).f0))).setCell ⟨gb105, 1, none⟩ (.int .i64 ((rd_T60 l0 x7_1).f1)))).cell? _ = some _ from hx106_0)); (try have hy106_1 := fun (n_ : Nat) => (show ((((w21.drewN n_).setCell ⟨gb105, 0, none⟩ (.int .i64 ((rd_T60 l0 x7_1).f0))).setCell ⟨gb105, 1, none⟩ (.int .i64 ((rd_T60 l0 x7_1).f1)))).cell? _ = some _ from hx106_1)); clear hn106_0; clear hn106_1; replace p106 := eq_true p106; replace q106 := eq_true q106)))
                          go_roundg k1
                          case measure => have := HK1.out; omega
                          case rel => exact ⟨(wrap64 (x7_1 + 1)), (by first | rfl | (simp; done) | (simp [*]; done)), H', ⟨by have := HK1.out; omega⟩, ⟨by repeat (first | (with_reducible first | exact HB.out | apply below_alloc | apply pw_below_drewN | apply below_drew1 | refine below_set ?_ GE105.out) | exact HB.out)⟩⟩
                  · rw [if_neg c11] at H
                    exact absurd H (by simp)
                · rw [if_neg c10] at H
                  exact absurd H (by simp)
              · rw [if_neg c8] at H
                have c8b0 : decide (0 < x7_1) = false := decide_eq_false c8
                clear c8
                by_cases c23 : ((rd_T60 l0 x7_1).f1) < 0
                · rw [if_pos c23] at H
                  have c23b0 : decide (((rd_T60 l0 x7_1).f1) < 0) = true := decide_eq_true c23
                  clear c23
                  obtain rfl := Option.some.inj H
                  have p104 : 0 ≤ (x7_1 : Int) := of_decide_eq_true (by first | (with_reducible assumption) | assumption)
                  have q104 : x7_1 < (l0.length : Int) := of_decide_eq_true (by first | (with_reducible assumption) | assumption)
                  obtain ⟨ad104, e104, hx104_0, hx104_1⟩ := at_T60 HR0.out x7_1 p104 q104
                  cases e104
                  replace hx104_0 := (HB.out.cell (World.block_lt_of_cell? w _ hx104_0)).trans hx104_0
                  replace hx104_1 := (HB.out.cell (World.block_lt_of_cell? w _ hx104_1)).trans hx104_1
                  replace p104 := eq_true p104
                  replace q104 := eq_true q104
                  go_wp2_with (first | ((with_reducible refine gate_dst (N := 4) rfl ?_); refine box_event ?hg (N := 4) ?hd (cs := #[.int .i64 0, .int .i64 0]) (t := 60) ?hr ?_; (case hd => rfl); (case hg => rfl); (case hr => first | (go_simp; done) | (go_simp; rfl)); intro gb105 hg w24 hbox hb; have n0_ := Aside0.mk (below_step (by repeat (first | (with_reducible first | exact HB.out | apply below_alloc | apply pw_below_drewN | apply below_drew1) | exact HB.out)) hb); have n1_ := Aside0.mk (hbox); have n2_ := Aside0.mk ((by rw [hg]; exact (below_size (by repeat (first | (with_reducible first | exact HB.out | apply below_alloc | apply pw_below_drewN | apply below_drew1) | exact HB.out))) : w.heap.size ≤ gb105)); have n3_ := Aside0.mk ((by rw [hg]; exact (below_size (by repeat (first | (with_reducible first | exact HB.out | apply below_alloc | apply pw_below_drewN | apply below_drew1) | exact HB.out))) : w.heap.size ≤ gb105)); clear HB; have HB := n0_; have BK105 := n1_; have GW105 := n2_; have GE105 := n3_; clear n0_ n1_ n2_ n3_; clear hb hbox hg; have hcz25_0 : w24.cell? ⟨gb105, 0, none⟩ = some (.int .i64 0) := (blk_cell BK105.out 0).trans rfl; have hcz25_1 : w24.cell? ⟨gb105, 1, none⟩ = some (.int .i64 0) := (blk_cell BK105.out 1).trans rfl; have hfz25_0 := blk_frozen BK105.out 0; have hfz25_1 := blk_frozen BK105.out 1))
                  repeat (go_quiet (first | ((with_reducible refine gate_dst (N := 4) rfl ?_); refine box_event ?hg (N := 4) ?hd (cs := #[.int .i64 0, .int .i64 0]) (t := 60) ?hr ?_; (case hd => rfl); (case hg => rfl); (case hr => first | (go_simp; done) | (go_simp; rfl)); intro gb105 hg w24 hbox hb; have n0_ := Aside0.mk (below_step (by repeat (first | (with_reducible first | exact HB.out | apply below_alloc | apply pw_below_drewN | apply below_drew1) | exact HB.out)) hb); have n1_ := Aside0.mk (hbox); have n2_ := Aside0.mk ((by rw [hg]; exact (below_size (by repeat (first | (with_reducible first | exact HB.out | apply below_alloc | apply pw_below_drewN | apply below_drew1) | exact HB.out))) : w.heap.size ≤ gb105)); have n3_ := Aside0.mk ((by rw [hg]; exact (below_size (by repeat (first | (with_reducible first | exact HB.out | apply below_alloc | apply pw_below_drewN | apply below_drew1) | exact HB.out))) : w.heap.size ≤ gb105)); clear HB; have HB := n0_; have BK105 := n1_; have GW105 := n2_; have GE105 := n3_; clear n0_ n1_ n2_ n3_; clear hb hbox hg; have hcz25_0 : w24.cell? ⟨gb105, 0, none⟩ = some (.int .i64 0) := (blk_cell BK105.out 0).trans rfl; have hcz25_1 : w24.cell? ⟨gb105, 1, none⟩ = some (.int .i64 0) := (blk_cell BK105.out 1).trans rfl; have hfz25_0 := blk_frozen BK105.out 0; have hfz25_1 := blk_frozen BK105.out 1)); try go_wp2_with (first | ((with_reducible refine gate_dst (N := 4) rfl ?_); refine box_event ?hg (N := 4) ?hd (cs := #[.int .i64 0, .int .i64 0]) (t := 60) ?hr ?_; (case hd => rfl); (case hg => rfl); (case hr => first | (go_simp; done) | (go_simp; rfl)); intro gb105 hg w24 hbox hb; have n0_ := Aside0.mk (below_step (by repeat (first | (with_reducible first | exact HB.out | apply below_alloc | apply pw_below_drewN | apply below_drew1) | exact HB.out)) hb); have n1_ := Aside0.mk (hbox); have n2_ := Aside0.mk ((by rw [hg]; exact (below_size (by repeat (first | (with_reducible first | exact HB.out | apply below_alloc | apply pw_below_drewN | apply below_drew1) | exact HB.out))) : w.heap.size ≤ gb105)); have n3_ := Aside0.mk ((by rw [hg]; exact (below_size (by repeat (first | (with_reducible first | exact HB.out | apply below_alloc | apply pw_below_drewN | apply below_drew1) | exact HB.out))) : w.heap.size ≤ gb105)); clear HB; have HB := n0_; have BK105 := n1_; have GW105 := n2_; have GE105 := n3_; clear n0_ n1_ n2_ n3_; clear hb hbox hg; have hcz25_0 : w24.cell? ⟨gb105, 0, none⟩ = some (.int .i64 0) := (blk_cell BK105.out 0).trans rfl; have hcz25_1 : w24.cell? ⟨gb105, 1, none⟩ = some (.int .i64 0) := (blk_cell BK105.out 1).trans rfl; have hfz25_0 := blk_frozen BK105.out 0; have hfz25_1 := blk_frozen BK105.out 1)))
                  go_ret
                  exact ⟨by first | rfl | (simp [errW_none, errW_some] <;> rfl) | (simp [*, errW_none, errW_some] <;> rfl), by repeat (first | (with_reducible first | exact HB.out | apply below_alloc | apply pw_below_drewN | apply below_drew1 | refine below_set ?_ GE105.out) | exact HB.out)⟩
                · rw [if_neg c23] at H
                  have c23b0 : decide (((rd_T60 l0 x7_1).f1) < 0) = false := decide_eq_false c23
                  clear c23
                  by_cases c26 : ((rd_T60 l0 x7_1).f1) > 5
                  · rw [if_pos c26] at H
                    have c26b0 : decide (5 < ((rd_T60 l0 x7_1).f1)) = true := decide_eq_true c26
                    clear c26
                    obtain rfl := Option.some.inj H
                    have p104 : 0 ≤ (x7_1 : Int) := of_decide_eq_true (by first | (with_reducible assumption) | assumption)
                    have q104 : x7_1 < (l0.length : Int) := of_decide_eq_true (by first | (with_reducible assumption) | assumption)
                    obtain ⟨ad104, e104, hx104_0, hx104_1⟩ := at_T60 HR0.out x7_1 p104 q104
                    cases e104
                    replace hx104_0 := (HB.out.cell (World.block_lt_of_cell? w _ hx104_0)).trans hx104_0
                    replace hx104_1 := (HB.out.cell (World.block_lt_of_cell? w _ hx104_1)).trans hx104_1
                    replace p104 := eq_true p104
                    replace q104 := eq_true q104
                    go_wp2_with (first | ((with_reducible refine gate_dst (N := 4) rfl ?_); refine box_event ?hg (N := 4) ?hd (cs := #[.int .i64 0, .int .i64 0]) (t := 60) ?hr ?_; (case hd => rfl); (case hg => rfl); (case hr => first | (go_simp; done) | (go_simp; rfl)); intro gb105 hg w27 hbox hb; have n0_ := Aside0.mk (below_step (by repeat (first | (with_reducible first | exact HB.out | apply below_alloc | apply pw_below_drewN | apply below_drew1) | exact HB.out)) hb); have n1_ := Aside0.mk (hbox); have n2_ := Aside0.mk ((by rw [hg]; exact (below_size (by repeat (first | (with_reducible first | exact HB.out | apply below_alloc | apply pw_below_drewN | apply below_drew1) | exact HB.out))) : w.heap.size ≤ gb105)); have n3_ := Aside0.mk ((by rw [hg]; exact (below_size (by repeat (first | (with_reducible first | exact HB.out | apply below_alloc | apply pw_below_drewN | apply below_drew1) | exact HB.out))) : w.heap.size ≤ gb105)); clear HB; have HB := n0_; have BK105 := n1_; have GW105 := n2_; have GE105 := n3_; clear n0_ n1_ n2_ n3_; clear hb hbox hg; have hcz28_0 : w27.cell? ⟨gb105, 0, none⟩ = some (.int .i64 0) := (blk_cell BK105.out 0).trans rfl; have hcz28_1 : w27.cell? ⟨gb105, 1, none⟩ = some (.int .i64 0) := (blk_cell BK105.out 1).trans rfl; have hfz28_0 := blk_frozen BK105.out 0; have hfz28_1 := blk_frozen BK105.out 1))
                    repeat (go_quiet (first | ((with_reducible refine gate_dst (N := 4) rfl ?_); refine box_event ?hg (N := 4) ?hd (cs := #[.int .i64 0, .int .i64 0]) (t := 60) ?hr ?_; (case hd => rfl); (case hg => rfl); (case hr => first | (go_simp; done) | (go_simp; rfl)); intro gb105 hg w27 hbox hb; have n0_ := Aside0.mk (below_step (by repeat (first | (with_reducible first | exact HB.out | apply below_alloc | apply pw_below_drewN | apply below_drew1) | exact HB.out)) hb); have n1_ := Aside0.mk (hbox); have n2_ := Aside0.mk ((by rw [hg]; exact (below_size (by repeat (first | (with_reducible first | exact HB.out | apply below_alloc | apply pw_below_drewN | apply below_drew1) | exact HB.out))) : w.heap.size ≤ gb105)); have n3_ := Aside0.mk ((by rw [hg]; exact (below_size (by repeat (first | (with_reducible first | exact HB.out | apply below_alloc | apply pw_below_drewN | apply below_drew1) | exact HB.out))) : w.heap.size ≤ gb105)); clear HB; have HB := n0_; have BK105 := n1_; have GW105 := n2_; have GE105 := n3_; clear n0_ n1_ n2_ n3_; clear hb hbox hg; have hcz28_0 : w27.cell? ⟨gb105, 0, none⟩ = some (.int .i64 0) := (blk_cell BK105.out 0).trans rfl; have hcz28_1 : w27.cell? ⟨gb105, 1, none⟩ = some (.int .i64 0) := (blk_cell BK105.out 1).trans rfl; have hfz28_0 := blk_frozen BK105.out 0; have hfz28_1 := blk_frozen BK105.out 1)); try go_wp2_with (first | ((with_reducible refine gate_dst (N := 4) rfl ?_); refine box_event ?hg (N := 4) ?hd (cs := #[.int .i64 0, .int .i64 0]) (t := 60) ?hr ?_; (case hd => rfl); (case hg => rfl); (case hr => first | (go_simp; done) | (go_simp; rfl)); intro gb105 hg w27 hbox hb; have n0_ := Aside0.mk (below_step (by repeat (first | (with_reducible first | exact HB.out | apply below_alloc | apply pw_below_drewN | apply below_drew1) | exact HB.out)) hb); have n1_ := Aside0.mk (hbox); have n2_ := Aside0.mk ((by rw [hg]; exact (below_size (by repeat (first | (with_reducible first | exact HB.out | apply below_alloc | apply pw_below_drewN | apply below_drew1) | exact HB.out))) : w.heap.size ≤ gb105)); have n3_ := Aside0.mk ((by rw [hg]; exact (below_size (by repeat (first | (with_reducible first | exact HB.out | apply below_alloc | apply pw_below_drewN | apply below_drew1) | exact HB.out))) : w.heap.size ≤ gb105)); clear HB; have HB := n0_; have BK105 := n1_; have GW105 := n2_; have GE105 := n3_; clear n0_ n1_ n2_ n3_; clear hb hbox hg; have hcz28_0 : w27.cell? ⟨gb105, 0, none⟩ = some (.int .i64 0) := (blk_cell BK105.out 0).trans rfl; have hcz28_1 : w27.cell? ⟨gb105, 1, none⟩ = some (.int .i64 0) := (blk_cell BK105.out 1).trans rfl; have hfz28_0 := blk_frozen BK105.out 0; have hfz28_1 := blk_frozen BK105.out 1)))
                    go_ret
                    exact ⟨by first | rfl | (simp [errW_none, errW_some] <;> rfl) | (simp [*, errW_none, errW_some] <;> rfl), by repeat (first | (with_reducible first | exact HB.out | apply below_alloc | apply pw_below_drewN | apply below_drew1 | refine below_set ?_ GE105.out) | exact HB.out)⟩
                  · rw [if_neg c26] at H
                    have c26b0 : decide (5 < ((rd_T60 l0 x7_1).f1)) = false := decide_eq_false c26
                    clear c26
                    have H' := Aside0.mk H
                    clear H
                    have p104 : 0 ≤ (x7_1 : Int) := of_decide_eq_true (by first | (with_reducible assumption) | assumption)
                    have q104 : x7_1 < (l0.length : Int) := of_decide_eq_true (by first | (with_reducible assumption) | assumption)
                    obtain ⟨ad104, e104, hx104_0, hx104_1⟩ := at_T60 HR0.out x7_1 p104 q104
                    cases e104
                    replace hx104_0 := (HB.out.cell (World.block_lt_of_cell? w _ hx104_0)).trans hx104_0
                    replace hx104_1 := (HB.out.cell (World.block_lt_of_cell? w _ hx104_1)).trans hx104_1
                    replace p104 := eq_true p104
                    replace q104 := eq_true q104
                    go_wp2_with (first | ((with_reducible refine gate_dst (N := 4) rfl ?_); refine box_event ?hg (N := 4) ?hd (cs := #[.int .i64 0, .int .i64 0]) (t := 60) ?hr ?_; (case hd => rfl); (case hg => rfl); (case hr => first | (go_simp; done) | (go_simp; rfl)); intro gb105 hg w29 hbox hb; have n0_ := Aside0.mk (below_step (by repeat (first | (with_reducible first | exact HB.out | apply below_alloc | apply pw_below_drewN | apply below_drew1) | exact HB.out)) hb); have n1_ := Aside0.mk (hbox); have n2_ := Aside0.mk ((by rw [hg]; exact (below_size (by repeat (first | (with_reducible first | exact HB.out | apply below_alloc | apply pw_below_drewN | apply below_drew1) | exact HB.out))) : w.heap.size ≤ gb105)); have n3_ := Aside0.mk ((by rw [hg]; exact (below_size (by repeat (first | (with_reducible first | exact HB.out | apply below_alloc | apply pw_below_drewN | apply below_drew1) | exact HB.out))) : w.heap.size ≤ gb105)); clear HB; have HB := n0_; have BK105 := n1_; have GW105 := n2_; have GE105 := n3_; clear n0_ n1_ n2_ n3_; clear hb hbox hg; have hcz30_0 : w29.cell? ⟨gb105, 0, none⟩ = some (.int .i64 0) := (blk_cell BK105.out 0).trans rfl; have hcz30_1 : w29.cell? ⟨gb105, 1, none⟩ = some (.int .i64 0) := (blk_cell BK105.out 1).trans rfl; have hfz30_0 := blk_frozen BK105.out 0; have hfz30_1 := blk_frozen BK105.out 1))
                    repeat (go_quiet (first | ((with_reducible refine gate_dst (N := 4) rfl ?_); refine box_event ?hg (N := 4) ?hd (cs := #[.int .i64 0, .int .i64 0]) (t := 60) ?hr ?_; (case hd => rfl); (case hg => rfl); (case hr => first | (go_simp; done) | (go_simp; rfl)); intro gb105 hg w29 hbox hb; have n0_ := Aside0.mk (below_step (by repeat (first | (with_reducible first | exact HB.out | apply below_alloc | apply pw_below_drewN | apply below_drew1) | exact HB.out)) hb); have n1_ := Aside0.mk (hbox); have n2_ := Aside0.mk ((by rw [hg]; exact (below_size (by repeat (first | (with_reducible first | exact HB.out | apply below_alloc | apply pw_below_drewN | apply below_drew1) | exact HB.out))) : w.heap.size ≤ gb105)); have n3_ := Aside0.mk ((by rw [hg]; exact (below_size (by repeat (first | (with_reducible first | exact HB.out | apply below_alloc | apply pw_below_drewN | apply below_drew1) | exact HB.out))) : w.heap.size ≤ gb105)); clear HB; have HB := n0_; have BK105 := n1_; have GW105 := n2_; have GE105 := n3_; clear n0_ n1_ n2_ n3_; clear hb hbox hg; have hcz30_0 : w29.cell? ⟨gb105, 0, none⟩ = some (.int .i64 0) := (blk_cell BK105.out 0).trans rfl; have hcz30_1 : w29.cell? ⟨gb105, 1, none⟩ = some (.int .i64 0) := (blk_cell BK105.out 1).trans rfl; have hfz30_0 := blk_frozen BK105.out 0; have hfz30_1 := blk_frozen BK105.out 1)); try go_wp2_with (first | ((with_reducible refine gate_dst (N := 4) rfl ?_); refine box_event ?hg (N := 4) ?hd (cs := #[.int .i64 0, .int .i64 0]) (t := 60) ?hr ?_; (case hd => rfl); (case hg => rfl); (case hr => first | (go_simp; done) | (go_simp; rfl)); intro gb105 hg w29 hbox hb; have n0_ := Aside0.mk (below_step (by repeat (first | (with_reducible first | exact HB.out | apply below_alloc | apply pw_below_drewN | apply below_drew1) | exact HB.out)) hb); have n1_ := Aside0.mk (hbox); have n2_ := Aside0.mk ((by rw [hg]; exact (below_size (by repeat (first | (with_reducible first | exact HB.out | apply below_alloc | apply pw_below_drewN | apply below_drew1) | exact HB.out))) : w.heap.size ≤ gb105)); have n3_ := Aside0.mk ((by rw [hg]; exact (below_size (by repeat (first | (with_reducible first | exact HB.out | apply below_alloc | apply pw_below_drewN | apply below_drew1) | exact HB.out))) : w.heap.size ≤ gb105)); clear HB; have HB := n0_; have BK105 := n1_; have GW105 := n2_; have GE105 := n3_; clear n0_ n1_ n2_ n3_; clear hb hbox hg; have hcz30_0 : w29.cell? ⟨gb105, 0, none⟩ = some (.int .i64 0) := (blk_cell BK105.out 0).trans rfl; have hcz30_1 : w29.cell? ⟨gb105, 1, none⟩ = some (.int .i64 0) := (blk_cell BK105.out 1).trans rfl; have hfz30_0 := blk_frozen BK105.out 0; have hfz30_1 := blk_frozen BK105.out 1)))
                    go_roundg k1
                    case measure => have := HK1.out; omega
                    case rel => exact ⟨(wrap64 (x7_1 + 1)), (by first | rfl | (simp; done) | (simp [*]; done)), H', ⟨by have := HK1.out; omega⟩, ⟨by repeat (first | (with_reducible first | exact HB.out | apply below_alloc | apply pw_below_drewN | apply below_drew1 | refine below_set ?_ GE105.out) | exact HB.out)⟩⟩
          · rw [if_neg c4] at H
            exact absurd H (by simp)
        · rw [if_neg c3] at H
          exact absurd H (by simp)
      · rw [if_neg c2] at H
        have c2b0 : decide (x7_1 < (l0.length : Int)) = false := decide_eq_false c2
        clear c2
        obtain rfl := Option.some.inj H
        go_wp2
        repeat (go_quiet (fail); try go_wp2)
        go_ret
        exact ⟨by first | rfl | (simp [errW_none, errW_some] <;> rfl) | (simp [*, errW_none, errW_some] <;> rfl), by repeat (first | (with_reducible first | exact HB.out | apply below_alloc | apply pw_below_drewN | apply below_drew1) | exact HB.out)⟩
end Go.Proofs.Ytbbhichndfbooaa.P
namespace Go.Proofs.Ytbbhichndfbooaa.P
open Go.RowKit Go.Proofs.YtbbhichndfbooaaW.PrintWords Go.Proofs.YtbbhichndfbooaaW.PrintLast Go.Proofs.YtbbhichndfbooaaW.PrintMore Go.Maps Go.ChangeShapes Go.WideShapes Go.WideMaps
set_option linter.unusedVariables false
set_option linter.unusedSimpArgs false
theorem info60 : (Try.prog.info? 60).map (fun i => (i.zero, i.size, i.bytes)) = some (some (.agg #[.int .i64 0, .int .i64 0]), 2, 16) := by kernel_rfl
/-- The first problem of a list of approvers. -/
def apErr (pre : List ByteArray) : List ByteArray → Int
  | [] => 0
  | a :: r => if codeB a = false then 7 else if hasB pre a = true then 8 else apErr (pre ++ [a]) r
def newErr (rt : Bool) (steps : List S60) (apprs : List ByteArray) : Int :=
  if steps.length > 200 ∨ apprs.length > 200 then 9 else if rt = false then 2 else apErr [] apprs
/-- What New returns. -/
def NewPost (w w' : World) (x : Ending) (err : Int) (steps : List S60) (apprs : List ByteArray) : Prop :=
  Below w.heap.size w w' ∧ ((err ≠ 0 ∧ x = .returned (.tuple #[.pointer none, .int .i64 err])) ∨ (err = 0 ∧ ∃ p F, x = .returned (.tuple #[.pointer (some ⟨p, 0, none⟩), .int .i64 0]) ∧ Flw w' F p ⟨steps, apprs, [], []⟩ ∧ ∀ k, F k → w.heap.size ≤ k))
theorem NewPost.bad {w w' : World} {err : Int} {steps : List S60} {apprs : List ByteArray} (h : Below w.heap.size w w') (he : err ≠ 0) : NewPost w w' (.returned (.tuple #[.pointer none, .int .i64 err])) err steps apprs := ⟨h, .inl ⟨he, rfl⟩⟩
set_option maxHeartbeats 8000000 in
set_option maxRecDepth 100000 in
theorem new_calls (A0 : Option Addr) (c0 : Nat) (steps : List S60) (A1 : Option Addr) (c1 : Nat) (apprs : List ByteArray) (w : World) (h0 : Kd.C k60 w A0 steps.length steps) (hc0 : steps.length ≤ c0) (h1 : Kd.string.C w A1 apprs.length apprs) (kr : Nat) (rt : Bool) (hr : flow_right.f kr steps = some rt) :
    Calls Try.prog 11 #[.slice A0 steps.length c0, .slice A1 apprs.length c1] w fun e w' => NewPost w w' e (newErr rt steps apprs) steps apprs := by
  have H0 := Aside0.mk h0
  have H1 := Aside0.mk h1
  have HR := Aside0.mk hr
  clear h0 h1 hr
  obtain ⟨err, he⟩ : ∃ err, newErr rt steps apprs = err := ⟨_, rfl⟩
  rw [he]
  have HE := Aside0.mk he
  clear he
  by_cases hl : steps.length > 200
  · have herr : err = 9 := by rw [← HE.out]; unfold newErr; rw [if_pos (.inl hl)]
    subst herr
    have d : decide ((200 : Int) < (steps.length : Int)) = true := decide_eq_true (by omega)
    go_enter Try.func11, Try.ntmps11
    go_wp2
    go_ret2
    exact NewPost.bad (Below.refl _ _) (by decide)
  by_cases hl1 : apprs.length > 200
  · have herr : err = 9 := by rw [← HE.out]; unfold newErr; rw [if_pos (.inr hl1)]
    subst herr
    have d0 : decide ((200 : Int) < (steps.length : Int)) = false := decide_eq_false (by omega)
    have d : decide ((200 : Int) < (apprs.length : Int)) = true := decide_eq_true (by omega)
    go_enter Try.func11, Try.ntmps11
    go_wp2
    go_ret2
    exact NewPost.bad (Below.refl _ _) (by decide)
  have d0 : decide ((200 : Int) < (steps.length : Int)) = false := decide_eq_false (by omega)
  have d1 : decide ((200 : Int) < (apprs.length : Int)) = false := decide_eq_false (by omega)
  cases rt
  · have herr : err = 2 := by rw [← HE.out]; unfold newErr; rw [if_neg (by omega), if_pos rfl]
    subst herr
    go_enter Try.func11, Try.ntmps11
    go_wp2_with (first | (go_at_call 32; refine (flow_right.calls kr A0 c0 steps false _ H0.out hc0 HR.out).mono ?_; rintro e w1 ⟨rfl, hdr⟩; have HB := Aside0.mk hdr; clear hdr))
    go_ret2
    exact NewPost.bad HB.out (by decide)
  have HE2 := Aside0.mk (show apErr [] apprs = err by rw [← HE.out]; unfold newErr; rw [if_neg (by omega), if_neg (by decide)])
  clear HE
  have hmm := @run_makeMap Try.prog
  go_enter Try.func11, Try.ntmps11
  go_upto_region 6 with (first | (go_at_call 32; refine (flow_right.calls kr A0 c0 steps true _ H0.out hc0 HR.out).mono ?_; rintro e w1 ⟨rfl, hdr⟩; have HB := Aside0.mk hdr; clear hdr) | ((with_reducible refine gate_builtin (b := .append) (xs := #[.const (.slice none 0 0), .tmp 19]) rfl ?_); at_builtin; refine Kd.R_append_rows k60 (w0 := w) (Rr := k60.K w1) w.heap.size rfl (.const (.slice none 0 0)) (.tmp 19) 22 60 (.agg #[.int .i64 0, .int .i64 0]) 16 rfl Try.underlying22 info60 rfl (by decide) (by omega) (.slice none 0 0) [] steps A0 steps.length c0 (fun k => w.heap.size ≤ k) (fun _ => False) rfl rfl ?aO ?aR ?aK (fun _ hk => hk.elim) ?aF ?aB ?aS ?aL ?_; (case aO => exact Kd.R_nil _ _ _ _ _); (case aR => exact Kd.C_below H0.out HB.out); (case aK => exact fun x cs hx => by obtain rfl := k60_open hx; exact k60_mkM _ _ _ _); (case aF => exact fun k hk => Nat.le_trans HB.out.size hk); (case aB => exact HB.out); (case aS => exact HB.out.size); (case aL => simp; omega); intro v1 w2 ho hb hg hat; obtain ⟨A2, c2, rfl⟩ := Kd.R_slice ho; have HO := Aside0.mk ho; have HB2 := Aside0.mk hb; clear ho hb hg hat))
  clear hmm
  refine with_world (P := fun x => Code.wp _ _ _ _ x) _ ?_
  intro w3 hw3
  have h0 := HO.out
  rw [List.nil_append] at h0
  have HP3 := Aside0.mk (show w3.heap[w2.heap.size + 1]? = some (.cells #[.slice A2 steps.length c2, .map (some w2.heap.size), .slice none 0 0, .slice none 0 0] 67 (0, 0)) from by
    rw [hw3]
    have := blk_new (w2.alloc (.map #[] 0)) (.cells #[.slice A2 steps.length c2, .map (some w2.heap.size), .slice none 0 0, .slice none 0 0] 67)
    rw [show (w2.alloc (.map #[] 0)).heap.size = w2.heap.size + 1 by simp] at this
    exact this)
  have HM3 := Aside0.mk (show MapB w3 w2.heap.size 0 [] from by
    rw [hw3]
    exact (MapB.made w2).move (Below.heap_alloc _ _ _ (MapB.made w2).lt))
  have HR3 := Aside0.mk (show k60.R 60 w3 w.heap.size (fun k => w.heap.size ≤ k) (.slice A2 steps.length c2) steps from by
    rw [hw3]
    exact Kd.R_alloc (Kd.R_alloc h0 _) _)
  have HB3 := Aside0.mk (show Below w.heap.size w w3 from by
    rw [hw3]
    exact below_alloc (below_alloc HB2.out _) _)
  have HSZ := Aside0.mk (show w.heap.size ≤ w2.heap.size from HB2.out.size)
  clear hw3 h0 HO HB HB2
  obtain ⟨m, hm⟩ : ∃ m, w2.heap.size = m := ⟨_, rfl⟩
  rw [hm] at HP3 HM3 HSZ ⊢
  clear hm
  go_wp2
  go_loopw [4, 5, 7, 26, 27, 28, 29, 30, 31, 32, 33, 34, 35, 36, 37, 38, 39, 40, 41, 42, 43, 44] (fun v4 _ _ v26 _ _ _ _ _ _ _ _ _ _ _ _ _ _ _ _ _ _ wr => ∃ k : Nat, k ≤ apprs.length ∧ v4 = .pointer (some ⟨m + 1, 0, none⟩) ∧ v26 = .int .i64 k ∧ Aside0 (Below w.heap.size w wr) ∧ Aside0 (wr.heap[m + 1]? = some (.cells #[.slice A2 steps.length c2, .map (some m), .slice none 0 0, .slice none 0 0] 67 (0, 0))) ∧ Aside0 (k60.R 60 wr w.heap.size (fun k => w.heap.size ≤ k) (.slice A2 steps.length c2) steps) ∧ Aside0 (MapB wr m k (apprs.take k)) ∧ Aside0 (apErr (apprs.take k) (apprs.drop k) = err)) (fun _ _ _ v26 _ _ _ _ _ _ _ _ _ _ _ _ _ _ _ _ _ _ _ => apprs.length - (intOf v26).toNat)
  case atStart => exact ⟨0, Nat.zero_le _, rfl, rfl, HB3, HP3, HR3, HM3, HE2⟩
  case round =>
    clear HB3 HP3 HR3 HM3 HE2
    obtain ⟨k, hk, rfl, rfl, HB, HP, HRS, HM, HE⟩ := hrel
    by_cases hlt : k < apprs.length
    · obtain ⟨ad, e, q0⟩ := Kd.at_string (Kd.C_below H1.out HB.out) (k : Int) (by omega) (by omega)
      subst e
      rw [Int.toNat_natCast] at q0
      have d1 : decide ((k : Int) < (apprs.length : Int)) = true := decide_eq_true (by omega)
      have d2 : decide (k < apprs.length) = true := decide_eq_true hlt
      have p0 : (0 : Int) ≤ (k : Int) := by omega
      have p1 : (k : Int) < (apprs.length : Int) := by omega
      have hsk : rdOf ByteArray.empty apprs (k : Int) = apprs[k] := by simp [rdOf, hlt]
      obtain ⟨s, hs⟩ : ∃ s, rdOf ByteArray.empty apprs (k : Int) = s := ⟨_, rfl⟩
      rw [hs] at q0 hsk
      have hdr : apprs.drop k = s :: apprs.drop (k + 1) := by rw [hsk, List.drop_eq_getElem_cons hlt]
      have htk : apprs.take (k + 1) = apprs.take k ++ [s] := by rw [List.take_add_one, List.getElem?_eq_getElem hlt, hsk]; rfl
      have hap : apErr (apprs.take k) (s :: apprs.drop (k + 1)) = err := by rw [← hdr]; exact HE.out
      have hap : (if codeB s = false then (7 : Int) else if hasB (apprs.take k) s = true then 8 else apErr (apprs.take k ++ [s]) (apprs.drop (k + 1))) = err := hap
      have HTK := Aside0.mk htk
      clear hs hsk hdr htk HE
      cases hc : codeB s
      · rw [hc, if_pos rfl] at hap
        subst hap
        have HC := Aside0.mk hc
        clear hc
        go_wp2_with (first | (go_at_call 33; refine (code_is HC.out _).mono ?_; rintro e w4 ⟨rfl, hdr⟩; have HB4 := Aside0.mk hdr.below; have HB5 := Aside0.mk (below_then HB.out HB.out.size HB4.out)))
        go_ret2
        exact NewPost.bad HB5.out (by decide)
      · rw [hc, if_neg (by decide)] at hap
        have hsz := code_size hc
        have HC := Aside0.mk hc
        clear hc
        obtain ⟨hb, hhb⟩ : ∃ hb, hasB (apprs.take k) s = hb := ⟨_, rfl⟩
        rw [hhb] at hap
        have HH := Aside0.mk hhb
        clear hhb
        cases hb
        · rw [if_neg (by decide)] at hap
          have HAP := Aside0.mk hap
          clear hap
          have hup : ∀ w4, Below wr.heap.size wr w4 → ∃ w5, (Instr.mapUpdate 64 (.map (some m)) (.string s) (.bool true)).run Try.prog w4 = .ok () w5 ∧ MapB w5 m (k + 1) (apprs.take k ++ [s]) ∧ w4.grownBy w5 (some m) := fun w4 hb4 => (HM.out.move (hb4.block _ HM.out.lt)).store (by unfold maxLen; omega) hsz
          have HUP := Aside0.mk hup
          clear hup
          go_wp2_with (first | (go_at_call 33; refine (code_is HC.out _).mono ?_; rintro e w4 ⟨rfl, hdr⟩; have HB4 := Aside0.mk hdr.below; have c1 := (blk_cell (blk_below HP.out HB4.out) 1).trans rfl; have hlk := (HM.out.move (HB4.out.block _ HM.out.lt)).look hsz; rw [HH.out] at hlk; obtain ⟨w5, hup, hM5, hg5⟩ := HUP.out w4 HB4.out; have HM5 := Aside0.mk hM5; have HG5 := Aside0.mk hg5; clear hM5 hg5))
          go_roundw
          case rel =>
            have hmt : ∀ x : Nat, Typed w4 x 60 ∨ Typed w4 x 67 → some x ≠ some m := fun x hx e => by
              obtain rfl : x = m := Option.some.inj e
              have hw := (HM.out.move (HB4.out.block _ HM.out.lt)).who
              rcases hx with hx | hx
              · exact typed_map hx hw rfl
              · exact typed_map hx hw rfl
            have hR4 := Kd.R_below HRS.out HB4.out
            refine ⟨k + 1, by omega, rfl, by go_num, ⟨?_⟩, ⟨blk_grown (blk_below HP.out HB4.out) HG5.out (hmt _ (.inr ⟨_, blk_below HP.out HB4.out⟩))⟩, ⟨?_⟩, ⟨?_⟩, ⟨?_⟩⟩
            · have hb4 := below_then HB.out HB.out.size HB4.out
              exact ⟨HG5.out.os.trans hb4.os, HG5.out.tape.trans hb4.tape, HG5.out.output.trans hb4.output, Nat.le_trans hb4.size HG5.out.size, fun x hx => (HG5.out.block x (Nat.lt_of_lt_of_le hx hb4.size) (fun e => by have := Option.some.inj e; have := HSZ.out; omega)).trans (hb4.block x hx)⟩
            · have h1 := Kd.R_mono (Kd.R_tight rfl hR4) (ok' := fun x => (Value.slice A2 steps.length c2).ownBlock = some x) (fun x hx => hx.symm)
              exact Kd.R_mono (Kd.R_step h1 (fun x hx hlt => HG5.out.block x hlt (hmt x (.inl (Kd.R_typed hR4 x hx))))) (fun x hx => hR4.1 x hx)
            · rw [HTK.out]
              exact HM5.out
            · rw [HTK.out]
              exact HAP.out
          case measure => simp [intOf]; omega
        · rw [if_pos rfl] at hap
          subst hap
          go_wp2_with (first | (go_at_call 33; refine (code_is HC.out _).mono ?_; rintro e w4 ⟨rfl, hdr⟩; have HB4 := Aside0.mk hdr.below; have c1 := (blk_cell (blk_below HP.out HB4.out) 1).trans rfl; have hlk := (HM.out.move (HB4.out.block _ HM.out.lt)).look hsz; rw [HH.out] at hlk))
          go_ret2
          exact NewPost.bad (below_then HB.out HB.out.size HB4.out) (by decide)
    · obtain rfl : k = apprs.length := by omega
      have d1 : decide ((apprs.length : Int) < (apprs.length : Int)) = false := decide_eq_false (by omega)
      go_wp2
      go_ret2
      have herr : err = 0 := by
        have := HE.out
        rw [List.drop_length] at this
        exact this.symm
      subst herr
      have hM := HM.out
      rw [List.take_length] at hM
      have hsz := HB.out.size
      refine ⟨HB.out, .inr ⟨rfl, m + 1, fun x => w.heap.size ≤ x ∧ x < wr.heap.size, rfl, ⟨⟨.slice A2 steps.length c2, m, .slice none 0 0, .slice none 0 0, [], []⟩, ?_⟩, fun x hx => hx.1⟩⟩
      refine ⟨HP.out, ⟨by have := HSZ.out; omega, blk_lt HP.out⟩, ?_, hM.who, ⟨HSZ.out, hM.lt⟩, Kd.R_nil _ _ _ _ _, Kd.R_nil _ _ _ _ _, rfl, rfl, fun j b D v h1 _ _ => by simp at h1, .nil, .nil, fun x hx => hx.2⟩
      exact Kd.R_mono (Kd.R_bound (Kd.R_lower HRS.out (Nat.zero_le _))) (fun x hx => ⟨hx.1, hx.2.2.1⟩)
end Go.Proofs.Ytbbhichndfbooaa.P
namespace Go.Proofs.Ytbbhichndfbooaa.P
open Go.RowKit Go.Proofs.YtbbhichndfbooaaW.PrintWords Go.Proofs.YtbbhichndfbooaaW.PrintLast Go.Proofs.YtbbhichndfbooaaW.PrintMore
attribute [local go_sem] max2_int min2_int max_two min_two max_three min_three max_four min_four   -- for this text's walks alone
set_option linter.unusedVariables false
set_option linter.unusedSimpArgs false
/-! ### accountingref15_has: function 35 -/
def accountingref15_has.l0 : Nat → List ByteArray → ByteArray → Int → Option (Bool)
  | 0, _, _, _ => none
  | k + 1, x0, x1, x5 => if x5 < (x0.length : Int) then (if 0 ≤ x5 then (if (rdOf ByteArray.empty x0 x5).toList = x1.toList then (some true) else (accountingref15_has.l0 k x0 x1 (wrap64 (x5 + 1)))) else (none)) else (some false)
def accountingref15_has.f (k : Nat) (l0 : List ByteArray) (a1 : ByteArray) : Option (Bool) := accountingref15_has.l0 k l0 a1 0
theorem accountingref15_has.mono_l : ∀ k, (∀ y0 y1 y2, LeO (accountingref15_has.l0 k y0 y1 y2) (accountingref15_has.l0 (k + 1) y0 y1 y2))
  | 0 => fun _ _ _ r h => by simp [accountingref15_has.l0] at h
  | k + 1 => by
    have ih0 := accountingref15_has.mono_l k
    · intro y0 y1 y2
      unfold accountingref15_has.l0
      repeat' first
      | (with_reducible exact ih0 _ _ _)
      | (with_reducible exact LeO.refl _)
      | (with_reducible exact LeO.none _)
      | (with_reducible refine LeO.ite ?_ ?_)
      | (with_reducible refine LeO.bind ?_ (fun _ => ?_))
      | exact ih0 _ _ _
      | exact LeO.none _
      | refine LeO.ite ?_ ?_
      | refine LeO.bind ?_ (fun _ => ?_)
theorem accountingref15_has.mono : ∀ a0 a1 k, LeO (accountingref15_has.f k a0 a1) (accountingref15_has.f (k + 1) a0 a1) := by
  intro a0 a1 k
  have ih0 := accountingref15_has.mono_l k
  unfold accountingref15_has.f
  repeat' first
      | (with_reducible exact ih0 _ _ _)
      | (with_reducible exact LeO.refl _)
      | (with_reducible exact LeO.none _)
      | (with_reducible refine LeO.ite ?_ ?_)
      | (with_reducible refine LeO.bind ?_ (fun _ => ?_))
      | exact ih0 _ _ _
      | exact LeO.none _
      | refine LeO.ite ?_ ?_
      | refine LeO.bind ?_ (fun _ => ?_)
set_option maxHeartbeats 8000000 in
set_option maxRecDepth 100000 in
theorem accountingref15_has.calls (k : Nat) (A0 : Option Addr) (c0 : Nat) (l0 : List ByteArray) (a1 : ByteArray) (r : Bool) (w : World) (hr0 : Kd.C Kd.string w A0 l0.length l0) (hc0 : l0.length ≤ c0) (h : accountingref15_has.f k l0 a1 = some r) :
    Calls Try.prog 35 #[.slice A0 l0.length c0, .string a1] w fun e w' => e = .returned (.bool r) ∧ Drawn0 w w' := by
  have HR0 := Aside0.mk hr0
  have HC0 := Aside0.mk hc0
  clear hr0 hc0
  have H : (accountingref15_has.l0 k l0 a1 0) = some r := h
  clear h
  have H' := Aside0.mk H
  clear H
  go_enter Try.func35, Try.ntmps35
  go_wp2
  go_loopg [5] k (fun kq v5 w' => ∃ (x5_1 : Int), v5 = .int .i64 x5_1 ∧ Aside0 (accountingref15_has.l0 kq l0 a1 x5_1 = some r) ∧ Aside0 (kq ≤ k) ∧ Drawn0 w w')
  case atStart => exact ⟨(0), (by first | rfl | (simp; done) | (simp [*]; done)), H', ⟨Nat.le_refl _⟩, by repeat (first | exact Drawn0.refl _ | apply Drawn0.step)⟩
  case round =>
    clear H'
    try clear p2
    obtain ⟨x5_1, rfl, HA, HK1, ⟨m1, rfl⟩⟩ := hrel
    cases gk with
    | zero => exact absurd HA.out (by simp [accountingref15_has.l0])
    | succ k1 =>
      have H := HA.out
      clear HA
      simp only [accountingref15_has.l0] at H
      by_cases c3 : x5_1 < (l0.length : Int)
      · rw [if_pos c3] at H
        have c3b0 : decide (x5_1 < (l0.length : Int)) = true := decide_eq_true c3
        clear c3
        by_cases c4 : 0 ≤ x5_1
        · rw [if_pos c4] at H
          have c4b0 : decide (0 ≤ x5_1) = true := decide_eq_true c4
          clear c4
          by_cases c5 : (rdOf ByteArray.empty l0 x5_1).toList = a1.toList
          · rw [if_pos c5] at H
            have c5b0 : ((rdOf ByteArray.empty l0 x5_1).toList == a1.toList) = true := beq_iff_eq.mpr c5
            have c5b1 : ((rdOf ByteArray.empty l0 x5_1).toList != a1.toList) = false := bne_eq_false_iff_eq.mpr c5
            clear c5
            obtain rfl := Option.some.inj H
            have p117 : 0 ≤ (x5_1 : Int) := of_decide_eq_true (by first | (with_reducible assumption) | assumption)
            have q117 : x5_1 < (l0.length : Int) := of_decide_eq_true (by first | (with_reducible assumption) | assumption)
            obtain ⟨ad117, e117, hx117_0⟩ := Kd.at_string HR0.out x5_1 p117 q117
            cases e117
            replace p117 := eq_true p117
            replace q117 := eq_true q117
            go_wp2
            go_ret
            exact ⟨by first | rfl | (simp; done) | (simp [*]; done), by repeat (first | exact Drawn0.refl _ | apply Drawn0.step)⟩
          · rw [if_neg c5] at H
            have c5b0 : ((rdOf ByteArray.empty l0 x5_1).toList == a1.toList) = false := beq_eq_false_iff_ne.mpr c5
            have c5b1 : ((rdOf ByteArray.empty l0 x5_1).toList != a1.toList) = true := bne_iff_ne.mpr c5
            have H' := Aside0.mk H
            clear H
            have p117 : 0 ≤ (x5_1 : Int) := of_decide_eq_true (by first | (with_reducible assumption) | assumption)
            have q117 : x5_1 < (l0.length : Int) := of_decide_eq_true (by first | (with_reducible assumption) | assumption)
            obtain ⟨ad117, e117, hx117_0⟩ := Kd.at_string HR0.out x5_1 p117 q117
            cases e117
            replace p117 := eq_true p117
            replace q117 := eq_true q117
            go_wp2
            go_roundg k1
            case measure => have := HK1.out; omega
            case rel => exact ⟨(wrap64 (x5_1 + 1)), (by first | rfl | (simp; done) | (simp [*]; done)), H', ⟨by have := HK1.out; omega⟩, by repeat (first | exact Drawn0.refl _ | apply Drawn0.step)⟩
        · rw [if_neg c4] at H
          exact absurd H (by simp)
      · rw [if_neg c3] at H
        have c3b0 : decide (x5_1 < (l0.length : Int)) = false := decide_eq_false c3
        clear c3
        obtain rfl := Option.some.inj H
        go_wp2
        go_ret
        exact ⟨by first | rfl | (simp; done) | (simp [*]; done), by repeat (first | exact Drawn0.refl _ | apply Drawn0.step)⟩
-- NOT PRINTED: function 12 (accountingref15_New)
-- NOT PRINTED: function 14 (accountingref15_Flow_Need)
end Go.Proofs.Ytbbhichndfbooaa.P
namespace Go.Proofs.Ytbbhichndfbooaa.P
open Go.RowKit Go.Proofs.YtbbhichndfbooaaW.PrintWords Go.Proofs.YtbbhichndfbooaaW.PrintLast Go.Proofs.YtbbhichndfbooaaW.PrintMore Go.Maps Go.ChangeShapes Go.WideShapes Go.WideMaps
set_option linter.unusedVariables false
set_option linter.unusedSimpArgs false
/-- A document of the reference, as its four cells lie. -/
structure RawD where
  au : ByteArray
  vo : Int
  st : Int
  A : Option Addr
  n : Nat
  c : Nat
def kD : Kd RawD where
  sz := 4
  E := []
  K _ x cs := cs = [.string x.au, .int .i64 x.vo, .int .i64 x.st, .slice x.A x.n x.c]
  M _ _ _ x cs := cs = [.string x.au, .int .i64 x.vo, .int .i64 x.st, .slice x.A x.n x.c]
  K_len := by rintro _ _ _ rfl; rfl
  K_one := by rintro _ _ _ rfl u hu; simp only [List.mem_cons, List.mem_nil_iff, or_false] at hu; rcases hu with rfl | rfl | rfl | rfl <;> rfl
  K_below _ h := h
  K_of_M h := h
  M_mono _ h := h
  M_bound h := h
  M_move _ h := h
  M_lower _ h := h
/-- The four cells lie for the document D. -/
structure RawOk (w : World) (F : Nat → Prop) (x : RawD) (D : DocS) : Prop where
  au : x.au = D.au
  vo : x.vo = D.vo
  st : x.st = D.st
  row : Kd.string.R 9 w 0 F (.slice x.A x.n x.c) D.ap
theorem RawOk.move {w w' : World} {F G : Nat → Prop} {x : RawD} {D : DocS} (h : RawOk w F x D) (hFG : ∀ k, F k → G k) (hm : ∀ k, F k → Typed w k 9 → w'.heap[k]? = w.heap[k]?) : RawOk w' G x D :=
  ⟨h.au, h.vo, h.st, row_over rfl h.row hFG (fun k hk => hm k (h.row.1 k hk) (Kd.R_typed h.row k hk))⟩
structure RParts where
  vs : Value
  va : Value
  vd : Value
  vl : Value
  rs : List RawD
structure RflP (w : World) (F : Nat → Prop) (q : Nat) (S : FlowS) (L : RParts) : Prop where
  blk : w.heap[q]? = some (.cells #[L.vs, L.va, L.vd, L.vl] 71 (0, 0))
  own : F q
  steps : k60.R 60 w 0 F L.vs S.steps
  appr : Kd.string.R 9 w 0 F L.va S.appr
  rowd : kD.R 78 w 0 F L.vd L.rs
  acts : k55.R 55 w 0 F L.vl S.acts
  len : L.rs.length = S.docs.length
  docs : ∀ (j : Nat) (x : RawD) (D : DocS), L.rs[j]? = some x → S.docs[j]? = some D → RawOk w F x D
  lt : ∀ k, F k → k < w.heap.size
def Rfl (w : World) (F : Nat → Prop) (q : Nat) (S : FlowS) : Prop := ∃ L, RflP w F q S L
section
variable {w w' : World} {F G : Nat → Prop} {q : Nat} {S : FlowS} {L : RParts}
theorem RflP.keep (h : RflP w F q S L) (hb : ∀ k, F k → w'.heap[k]? = w.heap[k]?) : RflP w' F q S L := by
  refine ⟨(hb _ h.own).trans h.blk, h.own, Kd.R_step h.steps (fun k hk _ => hb k hk), Kd.R_step h.appr (fun k hk _ => hb k hk), Kd.R_step h.rowd (fun k hk _ => hb k hk), Kd.R_step h.acts (fun k hk _ => hb k hk), h.len, fun j x D h1 h2 => (h.docs j x D h1 h2).move (fun _ hk => hk) (fun k hk _ => hb k hk), fun k hk => ?_⟩
  have := h.lt k hk
  have h2 := hb k hk
  rw [Array.getElem?_eq_getElem this] at h2
  exact (Array.getElem?_eq_some_iff.1 h2).1
theorem Rfl.keep (h : Rfl w F q S) (hb : ∀ k, F k → w'.heap[k]? = w.heap[k]?) : Rfl w' F q S := by
  obtain ⟨L, h⟩ := h
  exact ⟨L, h.keep hb⟩
theorem Rfl.lt (h : Rfl w F q S) : ∀ k, F k → k < w.heap.size := by
  obtain ⟨L, h⟩ := h
  exact h.lt
theorem Rfl.below (h : Rfl w F q S) (hb : Below w.heap.size w w') : Rfl w' F q S := h.keep (fun k hk => hb.block k (h.lt k hk))
theorem RflP.below (h : RflP w F q S L) (hb : Below w.heap.size w w') : RflP w' F q S L := h.keep (fun k hk => hb.block k (h.lt k hk))
theorem RflP.drewN (h : RflP w F q S L) (n : Nat) : RflP (w.drewN n) F q S L := h.keep (fun _ _ => rfl)
end
theorem has_take (k : Nat) (A : Option Addr) (c : Nat) (l : List ByteArray) (n : Nat) (hn : n ≤ l.length) (a : ByteArray) (r : Bool) (w : World) (hr : Kd.C Kd.string w A (l.take n).length (l.take n)) (hc : (l.take n).length ≤ c) (h : accountingref15_has.f k (l.take n) a = some r) :
    Calls Try.prog 35 #[.slice A n c, .string a] w fun e w' => e = .returned (.bool r) ∧ Drawn0 w w' := by
  have := accountingref15_has.calls k A c (l.take n) a r w hr hc h
  rw [show (l.take n).length = n by rw [List.length_take]; omega] at this
  exact this
/-- What the reference's New returns. -/
def RPost (w w' : World) (x : Ending) (err : Int) (steps : List S60) (apprs : List ByteArray) : Prop :=
  Below w.heap.size w w' ∧ ((err ≠ 0 ∧ x = .returned (.tuple #[.pointer none, .int .i64 err])) ∨ (err = 0 ∧ ∃ q F, x = .returned (.tuple #[.pointer (some ⟨q, 0, none⟩), .int .i64 0]) ∧ Rfl w' F q ⟨steps, apprs, [], []⟩ ∧ ∀ k, F k → w.heap.size ≤ k))
theorem RPost.bad {w w' : World} {err : Int} {steps : List S60} {apprs : List ByteArray} (h : Drawn0 w w') (he : err ≠ 0) : RPost w w' (.returned (.tuple #[.pointer none, .int .i64 err])) err steps apprs := ⟨h.below, .inl ⟨he, rfl⟩⟩
theorem RPost.good {w w' : World} {steps : List S60} {apprs : List ByteArray} {q : Nat} {vs va : Value} (hb : Below w.heap.size w w') (hq : w'.heap[q]? = some (.cells #[vs, va, .slice none 0 0, .slice none 0 0] 71 (0, 0))) (hl : w.heap.size ≤ q)
    (hs : k60.R 60 w' w.heap.size (fun k => w.heap.size ≤ k) vs steps) (ha : Kd.string.R 9 w' w.heap.size (fun k => w.heap.size ≤ k) va apprs) : RPost w w' (.returned (.tuple #[.pointer (some ⟨q, 0, none⟩), .int .i64 0])) 0 steps apprs := by
  refine ⟨hb, .inr ⟨rfl, q, fun x => w.heap.size ≤ x ∧ x < w'.heap.size, rfl, ⟨⟨vs, va, .slice none 0 0, .slice none 0 0, []⟩, ?_⟩, fun x hx => hx.1⟩⟩
  refine ⟨hq, ⟨hl, blk_lt hq⟩, ?_, ?_, Kd.R_nil _ _ _ _ _, Kd.R_nil _ _ _ _ _, rfl, fun j x D h1 _ => by simp at h1, fun x hx => hx.2⟩
  · exact Kd.R_mono (Kd.R_bound (Kd.R_lower hs (Nat.zero_le _))) (fun x hx => ⟨hx.1, hx.2.2.1⟩)
  · exact Kd.R_mono (Kd.R_bound (Kd.R_lower ha (Nat.zero_le _))) (fun x hx => ⟨hx.1, hx.2.2.1⟩)
set_option maxHeartbeats 4000000 in
set_option maxRecDepth 100000 in
theorem rneed_calls (q : Nat) (S : FlowS) (F : Nat → Prop) (v : Int) (w : World) (h : Rfl w F q S) :
    Calls Try.prog 14 #[.pointer (some ⟨q, 0, none⟩), .int .i64 v] w fun e w' => e = .returned (.tuple #[.int .i64 (needOf S.steps v).1, .bool (needOf S.steps v).2]) ∧ w' = w := by
  obtain ⟨L, h⟩ := h
  obtain ⟨A, c, hv⟩ := Kd.R_slice h.steps
  have hlen := stepsLen h.steps
  unfold maxLen at hlen
  have BK := h.blk
  have hR := h.steps
  rw [hv] at BK hR
  have c0 := (blk_cell BK 0).trans rfl
  have hC := (Kd.R_reads' hR).2.2
  have HR := Aside0.mk hC
  clear hC hR h BK
  go_enter Try.func14, Try.ntmps14
  go_wp2
  go_loopw [6, 9, 10, 11, 12, 13, 14, 15, 16, 17, 18, 19, 20, 21, 22, 23, 24, 25, 26, 27] (fun v6 _ _ _ _ _ _ _ _ _ _ _ _ _ _ _ _ _ _ _ wr => ∃ k : Nat, k ≤ S.steps.length ∧ v6 = .int .i64 k ∧ wr = w ∧ Aside0 (needOf S.steps v = needAt S.steps v k)) (fun v6 _ _ _ _ _ _ _ _ _ _ _ _ _ _ _ _ _ _ _ _ => S.steps.length - (intOf v6).toNat)
  case atStart => exact ⟨0, Nat.zero_le _, rfl, rfl, ⟨rfl⟩⟩
  case round =>
    obtain ⟨k, hk, rfl, rfl, HN⟩ := hrel
    by_cases hlt : k < S.steps.length
    · obtain ⟨ad, e, q0, q1⟩ := at_T60 HR.out (k : Int) (by omega) (by omega)
      subst e
      rw [Int.toNat_natCast] at q0 q1
      have d1 : decide ((k : Int) < (S.steps.length : Int)) = true := decide_eq_true (by omega)
      have d2 : decide (k < S.steps.length) = true := decide_eq_true hlt
      have p0 : (0 : Int) ≤ (k : Int) := by omega
      have p1 : (k : Int) < (S.steps.length : Int) := by omega
      have HS := Aside0.mk (needAt_succ S.steps v hlt)
      obtain ⟨st, hst⟩ : ∃ st, rd_T60 S.steps (k : Int) = st := ⟨_, rfl⟩
      rw [hst] at q0 q1 HS
      clear hst
      by_cases hc : st.f0 ≥ v
      · have hd : decide (v ≤ st.f0) = true := decide_eq_true hc
        go_wp2
        go_ret2
        rw [HN.out, HS.out, if_pos hc]
        exact ⟨rfl, rfl⟩
      · have hd : decide (v ≤ st.f0) = false := decide_eq_false hc
        go_wp2
        go_roundw
        case rel => exact ⟨k + 1, by omega, by go_num, by trivial, ⟨by rw [HN.out, HS.out, if_neg hc]⟩⟩
        case measure => simp [intOf]; omega
    · obtain rfl : k = S.steps.length := by omega
      have d1 : decide ((S.steps.length : Int) < (S.steps.length : Int)) = false := decide_eq_false (by omega)
      go_wp2
      go_ret2
      rw [HN.out, needAt_end]
      exact ⟨rfl, rfl⟩
theorem rneed_is {q : Nat} {S : FlowS} {F : Nat → Prop} {v nn : Int} {ok : Bool} (hn : needOf S.steps v = (nn, ok)) {w : World} (h : Rfl w F q S) :
    Calls Try.prog 14 #[.pointer (some ⟨q, 0, none⟩), .int .i64 v] w fun e w' => e = .returned (.tuple #[.int .i64 nn, .bool ok]) ∧ w' = w := by
  have := rneed_calls q S F v w h
  rw [hn] at this
  exact this
theorem rneed_nil (v : Int) (w : World) : Calls Try.prog 14 #[.pointer none, .int .i64 v] w fun e w' => e = .returned (.tuple #[.int .i64 0, .bool false]) ∧ w' = w := by
  go_enter Try.func14, Try.ntmps14
  go_wp2
  go_ret2
  exact ⟨rfl, rfl⟩
def zD : RawD := ⟨⟨#[]⟩, 0, 0, none, 0, 0⟩
theorem at_kD {w : World} {A : Option Addr} {n : Nat} {xs : List RawD} (h : Kd.C kD w A n xs) (j : Nat) (hj : j < n) : ∃ ad, A = some ad ∧ w.cell? (ad.add (j * 4)) = some (.string (xs.getD j zD).au) ∧ w.cell? ⟨(ad.add (j * 4)).block, (ad.add (j * 4)).off + 1, none⟩ = some (.int .i64 (xs.getD j zD).vo) ∧ w.cell? ⟨(ad.add (j * 4)).block, (ad.add (j * 4)).off + 2, none⟩ = some (.int .i64 (xs.getD j zD).st) ∧ w.cell? ⟨(ad.add (j * 4)).block, (ad.add (j * 4)).off + 3, none⟩ = some (.slice (xs.getD j zD).A (xs.getD j zD).n (xs.getD j zD).c) := by
  obtain ⟨ad, c, e, _, hK, hc0⟩ := Kd.C_get h zD (j : Int) (by omega) (by omega)
  rw [Int.toNat_natCast] at hc0 hK
  have hc : ∀ i u, c[i]? = some u → w.cell? (ad.add (j * 4 + i)) = some u := hc0
  have hK : c = [.string (xs.getD j zD).au, .int .i64 (xs.getD j zD).vo, .int .i64 (xs.getD j zD).st, .slice (xs.getD j zD).A (xs.getD j zD).n (xs.getD j zD).c] := hK
  subst hK
  exact ⟨ad, e, hc 0 _ rfl, by rw [← add_field _ _ 1 (by omega)]; exact hc 1 _ rfl, by rw [← add_field _ _ 2 (by omega)]; exact hc 2 _ rfl, by rw [← add_field _ _ 3 (by omega)]; exact hc 3 _ rfl⟩
theorem wf_range {id : Int} (hid : (Lit.int .i64 id).wf = true) : -9223372036854775808 ≤ id ∧ id ≤ 9223372036854775807 := by
  have h : (decide (IntKind.i64.min ≤ id) && decide (id ≤ IntKind.i64.max)) = true := hid
  rw [Bool.and_eq_true, decide_eq_true_iff, decide_eq_true_iff] at h
  exact ⟨h.1, h.2⟩
theorem docAt_cases (S : FlowS) (id : Int) : (docAt S id = none ∧ (id < 1 ∨ (1 ≤ id ∧ (S.docs.length : Int) < id))) ∨ ∃ (j : Nat) (D : DocS), docAt S id = some D ∧ id = (j : Int) + 1 ∧ j < S.docs.length ∧ S.docs[j]? = some D := by
  unfold docAt
  by_cases h1 : id < 1
  · rw [if_pos h1]
    exact .inl ⟨rfl, .inl h1⟩
  · rw [if_neg h1]
    by_cases h2 : id > S.docs.length
    · rw [if_pos h2]
      exact .inl ⟨rfl, .inr ⟨by omega, by omega⟩⟩
    · rw [if_neg h2]
      obtain ⟨j, rfl⟩ : ∃ j : Nat, id = (j : Int) + 1 := ⟨(id - 1).toNat, by omega⟩
      have hj : j < S.docs.length := by omega
      rw [show ((j : Int) + 1 - 1).toNat = j by omega]
      exact .inr ⟨j, _, List.getElem?_eq_getElem hj, rfl, hj, List.getElem?_eq_getElem hj⟩
set_option maxHeartbeats 4000000 in
set_option maxRecDepth 100000 in
theorem rthere_calls (q : Nat) (S : FlowS) (F : Nat → Prop) (id : Int) (hid : (Lit.int .i64 id).wf = true) (w : World) (h : Rfl w F q S) :
    Calls Try.prog 39 #[.pointer (some ⟨q, 0, none⟩), .int .i64 id] w fun e w' => e = .returned (.bool (docAt S id).isSome) ∧ w' = w := by
  obtain ⟨L, h⟩ := h
  obtain ⟨A, c, hv⟩ := Kd.R_slice h.rowd
  have BK := h.blk
  rw [hv, h.len] at BK
  have c2 := (blk_cell BK 2).trans rfl
  clear BK h hv
  rcases docAt_cases S id with ⟨h1, h2 | ⟨h2, h3⟩⟩ | ⟨j, D, h1, rfl, h3, -⟩
  · rw [h1]
    have d1 : decide (1 ≤ id) = false := decide_eq_false (by omega)
    clear h2 h1
    go_enter Try.func39, Try.ntmps39
    go_wp2
    go_ret
    exact ⟨rfl, rfl⟩
  · rw [h1]
    have d1 : decide (1 ≤ id) = true := decide_eq_true h2
    have d2 : decide (id ≤ (S.docs.length : Int)) = false := decide_eq_false (by omega)
    clear h2 h1 h3
    go_enter Try.func39, Try.ntmps39
    go_wp2
    go_ret
    exact ⟨rfl, rfl⟩
  · rw [h1]
    have d1 : decide (1 ≤ (j : Int) + 1) = true := decide_eq_true (by omega)
    have d2 : decide ((j : Int) + 1 ≤ (S.docs.length : Int)) = true := decide_eq_true (by omega)
    clear h1
    go_enter Try.func39, Try.ntmps39
    go_wp2
    go_ret
    exact ⟨rfl, rfl⟩
theorem rthere_is {q : Nat} {S : FlowS} {F : Nat → Prop} {id : Int} (hid : (Lit.int .i64 id).wf = true) {w : World} (h : Rfl w F q S) {b : Bool} (hb : (docAt S id).isSome = b) :
    Calls Try.prog 39 #[.pointer (some ⟨q, 0, none⟩), .int .i64 id] w fun e w' => e = .returned (.bool b) ∧ w' = w := hb ▸ rthere_calls q S F id hid w h
/-- A document, as a call returns it. -/
def DocV (w : World) (D : DocS) (v : Value) : Prop := ∃ A c, v = .agg #[.string D.au, .int .i64 D.vo, .int .i64 D.st, .slice A D.ap.length c] ∧ D.ap.length ≤ c ∧ Kd.string.C w A D.ap.length D.ap
theorem RawOk.docV {w w' : World} {F : Nat → Prop} {x : RawD} {D : DocS} (h : RawOk w F x D) (hb : Below w.heap.size w w') : DocV w' D (.agg #[.string x.au, .int .i64 x.vo, .int .i64 x.st, .slice x.A x.n x.c]) := by
  have hr := h.row
  obtain ⟨A, c, e⟩ := Kd.R_slice hr
  simp only [Value.slice.injEq] at e
  obtain ⟨_, e2, _⟩ := e
  rw [e2] at hr
  have h2 := Kd.R_reads' hr
  rw [h.au, h.vo, h.st, e2]
  exact ⟨_, _, rfl, h2.2.1, Kd.C_below h2.2.2 hb⟩
def docZ (S : FlowS) (id : Int) : DocS := (docAt S id).getD ⟨⟨#[]⟩, 0, 0, []⟩
set_option maxHeartbeats 4000000 in
set_option maxRecDepth 100000 in
theorem rdoc_calls (q : Nat) (S : FlowS) (F : Nat → Prop) (id : Int) (hid : (Lit.int .i64 id).wf = true) (w : World) (h : Rfl w F q S) :
    Calls Try.prog 43 #[.pointer (some ⟨q, 0, none⟩), .int .i64 id] w fun e w' => ∃ v, e = .returned v ∧ DocV w' (docZ S id) v ∧ Below w.heap.size w w' := by
  have HF := Aside0.mk h
  obtain ⟨lo, hi⟩ := wf_range hid
  rcases docAt_cases S id with ⟨h1, -⟩ | ⟨j, D, h1, rfl, h3, h4⟩
  · have HI := Aside0.mk (show (docAt S id).isSome = false by rw [h1]; rfl)
    unfold docZ
    rw [h1]
    clear h h1
    go_enter Try.func43, Try.ntmps43
    go_wp2_with (first | (go_at_call 39; refine (rthere_is hid (HF.out.below (below_alloc (Below.refl _ _) _)) HI.out).mono ?_; rintro e w' ⟨rfl, he_⟩; obtain rfl := he_.symm))
    refine bodyPost_ret (results_cell_row rfl _ _ w.heap.size 78 #[.string ⟨#[]⟩, .int .i64 0, .int .i64 0, .slice none 0 0] (0, 0) _ rfl (blk_new w _) Try.underlying78 rfl rfl) rfl ?_
    exact ⟨_, rfl, ⟨none, 0, rfl, Nat.le_refl _, (Kd.R_reads' (Kd.R_nil Kd.string 9 _ 0 (fun _ => True))).2.2⟩, below_alloc (Below.refl _ _) _⟩
  · have HI := Aside0.mk (show (docAt S ((j : Int) + 1)).isSome = true by rw [h1]; rfl)
    unfold docZ
    rw [h1]
    obtain ⟨L, h⟩ := h
    obtain ⟨A, c, hv⟩ := Kd.R_slice h.rowd
    have BK := h.blk
    have hR := h.rowd
    rw [hv] at BK hR
    have c2 := (blk_cell BK 2).trans rfl
    have hC := (Kd.R_reads' hR).2.2
    have hjl : j < L.rs.length := by rw [h.len]; exact h3
    obtain ⟨ad, e, q0, q1, q2, q3⟩ := at_kD hC j hjl
    subst e
    have hX : L.rs[j]? = some (L.rs.getD j zD) := by simp [hjl]
    have hD := h.docs j _ _ hX h4
    obtain ⟨x, hx⟩ : ∃ x, L.rs.getD j zD = x := ⟨_, rfl⟩
    rw [hx] at q0 q1 q2 q3 hD
    have HD := Aside0.mk hD
    have e2 : wrap64 (j : Int) = (j : Int) := by unfold wrap64; omega
    have p0 : (0 : Int) ≤ (j : Int) := by omega
    have p1 : (j : Int) < (L.rs.length : Int) := by omega
    clear h h1 hC hR BK hX hx hD hv h3 h4 lo hi hjl
    go_enter Try.func43, Try.ntmps43
    go_upto_region 3 with (first | (go_at_call 39; refine (rthere_is hid (HF.out.below (below_alloc (Below.refl _ _) _)) HI.out).mono ?_; rintro e w' ⟨rfl, he_⟩; obtain rfl := he_.symm))
    refine with_world (P := fun x => Code.wp _ _ _ _ x) _ ?_
    intro w1 hw1
    have HB1 := Aside0.mk (show Below w.heap.size w w1 from by rw [hw1]; exact below_alloc (Below.refl _ _) _)
    have BK1 : w1.heap[w.heap.size]? = some (.cells #[.string ⟨#[]⟩, .int .i64 0, .int .i64 0, .slice none 0 0] 78 (0, 0)) := by rw [hw1]; exact blk_new w _
    have keepc : ∀ {p : Addr} {u : Value}, w.cell? p = some u → w1.cell? p = some u := fun {p u} hp => (HB1.out.cell (World.block_lt_of_cell? w _ hp)).trans hp
    replace c2 := keepc c2
    replace q0 := keepc q0
    replace q1 := keepc q1
    replace q2 := keepc q2
    replace q3 := keepc q3
    obtain ⟨g, hg⟩ : ∃ g, w.heap.size = g := ⟨_, rfl⟩
    rw [hg] at BK1 ⊢
    have HG := Aside0.mk hg
    have HBK := Aside0.mk BK1
    have b0 := (blk_cell BK1 0).trans rfl
    have b1 := (blk_cell BK1 1).trans rfl
    have b2 := (blk_cell BK1 2).trans rfl
    have b3 := (blk_cell BK1 3).trans rfl
    have f0 := blk_frozen BK1 0
    have f1 := blk_frozen BK1 1
    have f2 := blk_frozen BK1 2
    have f3 := blk_frozen BK1 3
    clear hw1 hg BK1 keepc hid
    go_wp2
    refine bodyPost_ret (results_cell_row rfl _ _ g 78 #[.string x.au, .int .i64 x.vo, .int .i64 x.st, .slice x.A x.n x.c] (0, 0) _ rfl (blk_put (blk_put (blk_put (blk_put HBK.out 0 _ rfl) 1 _ rfl) 2 _ rfl) 3 _ rfl) Try.underlying78 rfl rfl) rfl ?_
    have hge : w.heap.size ≤ g := Nat.le_of_eq HG.out
    have hb : Below w.heap.size w ((((w1.setCell ⟨g, 0, none⟩ (.string x.au)).setCell ⟨g, 1, none⟩ (.int .i64 x.vo)).setCell ⟨g, 2, none⟩ (.int .i64 x.st)).setCell ⟨g, 3, none⟩ (.slice x.A x.n x.c)) := below_set (below_set (below_set (below_set HB1.out hge) hge) hge) hge
    exact ⟨_, rfl, HD.out.docV hb, hb⟩
theorem f78_0 (a : ByteArray) (b c : Int) (v : Value) (w : World) : (Instr.field 78 (.agg #[.string a, .int .i64 b, .int .i64 c, v]) 0).run Try.prog w = .ok (.string a) w := by kernel_rfl
theorem f78_2 (a : ByteArray) (b c : Int) (v : Value) (w : World) : (Instr.field 78 (.agg #[.string a, .int .i64 b, .int .i64 c, v]) 2).run Try.prog w = .ok (.int .i64 c) w := by kernel_rfl
theorem f78_3 (a : ByteArray) (b c : Int) (v : Value) (w : World) : (Instr.field 78 (.agg #[.string a, .int .i64 b, .int .i64 c, v]) 3).run Try.prog w = .ok v w := by kernel_rfl
theorem docZ_st (S : FlowS) (id : Int) : (docZ S id).st = stOf S id := by unfold docZ stOf; cases docAt S id <;> rfl
theorem docZ_au (S : FlowS) (id : Int) : (docZ S id).au = auOf S id := by unfold docZ auOf; cases docAt S id <;> rfl
theorem docZ_ap (S : FlowS) (id : Int) : (docZ S id).ap = apOf S id := by unfold docZ apOf; cases docAt S id <;> rfl
set_option maxHeartbeats 2000000 in
theorem rstate_calls (q : Nat) (S : FlowS) (F : Nat → Prop) (id : Int) (hid : (Lit.int .i64 id).wf = true) (w : World) (h : Rfl w F q S) :
    Calls Try.prog 21 #[.pointer (some ⟨q, 0, none⟩), .int .i64 id] w fun e w' => e = .returned (.int .i64 (stOf S id)) ∧ Below w.heap.size w w' := by
  have hf0 := f78_0
  have hf2 := f78_2
  have hf3 := f78_3
  go_enter Try.func21, Try.ntmps21
  go_wp2_with (first | (go_at_call 43; refine (rdoc_calls q S F id hid _ h).mono ?_; rintro e w' ⟨v, rfl, ⟨A, c, rfl, hc, hC⟩, hb⟩; have HB := Aside0.mk hb; clear hb hC hc))
  go_ret
  exact ⟨by rw [docZ_st]; rfl, HB.out⟩
set_option maxHeartbeats 2000000 in
theorem rauthor_calls (q : Nat) (S : FlowS) (F : Nat → Prop) (id : Int) (hid : (Lit.int .i64 id).wf = true) (w : World) (h : Rfl w F q S) :
    Calls Try.prog 44 #[.pointer (some ⟨q, 0, none⟩), .int .i64 id] w fun e w' => e = .returned (.string (auOf S id)) ∧ Below w.heap.size w w' := by
  have hf0 := f78_0
  have hf2 := f78_2
  have hf3 := f78_3
  go_enter Try.func44, Try.ntmps44
  go_wp2_with (first | (go_at_call 43; refine (rdoc_calls q S F id hid _ h).mono ?_; rintro e w' ⟨v, rfl, ⟨A, c, rfl, hc, hC⟩, hb⟩; have HB := Aside0.mk hb; clear hb hC hc))
  go_ret
  exact ⟨by rw [docZ_au]; rfl, HB.out⟩
set_option maxHeartbeats 4000000 in
set_option maxRecDepth 100000 in
theorem rapprovals_calls (q : Nat) (S : FlowS) (F : Nat → Prop) (id : Int) (hid : (Lit.int .i64 id).wf = true) (w : World) (h : Rfl w F q S) (hn : (apOf S id).length ≤ 1000000) :
    Calls Try.prog 45 #[.pointer (some ⟨q, 0, none⟩), .int .i64 id] w fun e w' => ∃ v, e = .returned v ∧ Kd.string.R 9 w' w.heap.size (fun k => w.heap.size ≤ k) v (apOf S id) ∧ Below w.heap.size w w' := by
  have HF := Aside0.mk h
  have HB1 := Aside0.mk (Below.refl w.heap.size w)
  have hn2 : (docZ S id).ap.length ≤ 1000000 := by rw [docZ_ap]; exact hn
  clear h hn
  have hf0 := f78_0
  have hf2 := f78_2
  have hf3 := f78_3
  go_enter Try.func45, Try.ntmps45
  go_wp2_with (first | ((with_reducible refine gate_dst (N := 5) rfl ?_); refine Kd.R_lit Kd.string (w0 := w) w.heap.size 9 ?hg (N := 5) ?hd (xs := ([] : List ByteArray)) (inner := []) (ok := fun k => w.heap.size ≤ k) (okp := fun _ => False) ?hr (Reps.none _ _) (fun _ hk => hk.elim) HB1.out.size HB1.out HB1.out.size (by simp) ?_; (case hd => rfl); (case hg => rfl); (case hr => first | (go_simp; done) | (go_simp; rfl)); intro v5 wA ho hb hg_ hnew_; obtain ⟨A5, c5, rfl⟩ := Kd.R_slice ho; have HOA := Aside0.mk ho; have HBA := Aside0.mk hb; clear ho hb hg_ hnew_) | (go_at_call 43; refine (rdoc_calls q S F id hid _ (HF.out.below HBA.out)).mono ?_; rintro e wB ⟨v, rfl, ⟨A, c, rfl, hc, hC⟩, hb⟩; have HBB := Aside0.mk (below_then HBA.out HBA.out.size hb); have HOB := Aside0.mk (Kd.R_below HOA.out hb); have HC := Aside0.mk hC; clear hb hC hc) | ((with_reducible refine gate_builtin (b := .append) (xs := #[.tmp 5, .tmp 9]) rfl ?_); at_builtin; refine Kd.R_append_rows Kd.string (w0 := w) (Rr := Kd.string.K wB) w.heap.size rfl (.tmp 5) (.tmp 9) 23 9 (.string ⟨#[]⟩) 16 rfl Try.underlying23 info9 rfl (by decide) (by omega) (.slice A5 0 c5) [] (docZ S id).ap A (docZ S id).ap.length c (fun k => w.heap.size ≤ k) (fun _ => False) rfl rfl ?aO ?aR ?aK (fun _ hk => hk.elim) ?aF ?aB ?aS ?aL ?_; (case aO => exact HOB.out); (case aR => exact HC.out); (case aK => exact fun x cs hx => hx); (case aF => exact fun k hk => Nat.le_trans HBB.out.size hk); (case aB => exact HBB.out); (case aS => exact HBB.out.size); (case aL => simp; omega); intro v10 wC ho hb hg_ hat; obtain ⟨A10, c10, rfl⟩ := Kd.R_slice ho; have HOC := Aside0.mk ho; have HBC := Aside0.mk hb; clear ho hb hg_ hat))
  go_ret
  refine ⟨_, rfl, ?_, HBC.out⟩
  rw [← docZ_ap]
  exact HOC.out
set_option maxHeartbeats 4000000 in
set_option maxRecDepth 100000 in
theorem racts_calls (q : Nat) (S : FlowS) (F : Nat → Prop) (w : World) (h : Rfl w F q S) (hn : S.acts.length ≤ 1000000) :
    Calls Try.prog 46 #[.pointer (some ⟨q, 0, none⟩)] w fun e w' => ∃ v, e = .returned v ∧ k55.R 55 w' w.heap.size (fun k => w.heap.size ≤ k) v S.acts ∧ Below w.heap.size w w' := by
  obtain ⟨L, h⟩ := h
  obtain ⟨A, c, hv⟩ := Kd.R_slice h.acts
  have BK := h.blk
  have hR := h.acts
  rw [hv] at BK hR
  have HC := Aside0.mk (Kd.R_reads' hR).2.2
  have HBK := Aside0.mk BK
  have HB1 := Aside0.mk (Below.refl w.heap.size w)
  have c3 := (blk_cell BK 3).trans rfl
  clear BK hR hv h
  go_enter Try.func46, Try.ntmps46
  go_wp2_with (first | ((with_reducible refine gate_dst (N := 5) rfl ?_); refine Kd.R_lit k55 (w0 := w) w.heap.size 55 ?hg (N := 5) ?hd (xs := ([] : List S55)) (inner := []) (ok := fun k => w.heap.size ≤ k) (okp := fun _ => False) ?hr (Reps.none _ _) (fun _ hk => hk.elim) HB1.out.size HB1.out HB1.out.size (by simp) ?_; (case hd => rfl); (case hg => rfl); (case hr => first | (go_simp; done) | (go_simp; rfl)); intro v5 wA ho hb hg_ hnew_; obtain ⟨A5, c5, rfl⟩ := Kd.R_slice ho; have HOA := Aside0.mk ho; have HBA := Aside0.mk hb; have c3' := (blk_cell (blk_below HBK.out hb) 3).trans rfl; clear ho hb hg_ hnew_ c3) | ((with_reducible refine gate_builtin (b := .append) (xs := #[.tmp 5, .tmp 9]) rfl ?_); at_builtin; refine Kd.R_append_rows k55 (w0 := w) (Rr := k55.K wA) w.heap.size rfl (.tmp 5) (.tmp 9) 41 55 (.agg #[.int .i64 0, .int .i64 0, .string ⟨#[]⟩]) 32 rfl Try.underlying41 info55 rfl (by decide) (by omega) (.slice A5 0 c5) [] S.acts A S.acts.length c (fun k => w.heap.size ≤ k) (fun _ => False) rfl rfl ?aO ?aR ?aK (fun _ hk => hk.elim) ?aF ?aB ?aS ?aL ?_; (case aO => exact HOA.out); (case aR => exact Kd.C_below HC.out HBA.out); (case aK => exact fun x cs hx => by obtain rfl := k55_open hx; exact k55_mkM _ _ _ _); (case aF => exact fun k hk => Nat.le_trans HBA.out.size hk); (case aB => exact HBA.out); (case aS => exact HBA.out.size); (case aL => simp; omega); intro v10 wC ho hb hg_ hat; obtain ⟨A10, c10, rfl⟩ := Kd.R_slice ho; have HOC := Aside0.mk ho; have HBC := Aside0.mk hb; clear ho hb hg_ hat))
  go_ret
  exact ⟨_, rfl, HOC.out, HBC.out⟩
section
variable {w w' : World} {F G : Nat → Prop} {q : Nat} {S : FlowS} {L : RParts}
theorem RflP.tq (h : RflP w F q S L) : Typed w q 71 := ⟨_, h.blk⟩
theorem RflP.ts (h : RflP w F q S L) {k : Nat} (hk : L.vs.ownBlock = some k) : Typed w k 60 := Kd.R_typed h.steps k hk
theorem RflP.ta (h : RflP w F q S L) {k : Nat} (hk : L.va.ownBlock = some k) : Typed w k 9 := Kd.R_typed h.appr k hk
theorem RflP.td (h : RflP w F q S L) {k : Nat} (hk : L.vd.ownBlock = some k) : Typed w k 78 := Kd.R_typed h.rowd k hk
theorem RflP.tl (h : RflP w F q S L) {k : Nat} (hk : L.vl.ownBlock = some k) : Typed w k 55 := Kd.R_typed h.acts k hk
/-- What stays when the workflow's own block and the acts turn. -/
theorem RflP.turned_acts (h : RflP w F q S L) {vl : Value} {al : List S55} (hFG : ∀ k, F k → G k) (hm : ∀ k, F k → k ≠ q → L.vl.ownBlock ≠ some k → w'.heap[k]? = w.heap[k]?)
    (hb : w'.heap[q]? = some (.cells #[L.vs, L.va, L.vd, vl] 71 (0, 0))) (ha : k55.R 55 w' 0 G vl al) (hlt : ∀ k, G k → k < w'.heap.size) : RflP w' G q { S with acts := al } { L with vl := vl } := by
  have hm9 : ∀ k, F k → Typed w k 9 → w'.heap[k]? = w.heap[k]? := fun k hF ht => hm k hF (typed_ne ht h.tq (by decide)) (fun e => typed_ne ht (h.tl e) (by decide) rfl)
  refine ⟨hb, hFG _ h.own, ?_, ?_, ?_, ha, h.len, fun j x D h1 h2 => (h.docs j x D h1 h2).move hFG hm9, hlt⟩
  · exact row_over rfl h.steps hFG (fun k hk => hm k (h.steps.1 k hk) (typed_ne (h.ts hk) h.tq (by decide)) (fun e => typed_ne (h.ts hk) (h.tl e) (by decide) rfl))
  · exact row_over rfl h.appr hFG (fun k hk => hm9 k (h.appr.1 k hk) (h.ta hk))
  · exact row_over rfl h.rowd hFG (fun k hk => hm k (h.rowd.1 k hk) (typed_ne (h.td hk) h.tq (by decide)) (fun e => typed_ne (h.td hk) (h.tl e) (by decide) rfl))
/-- What stays when the workflow's own block and the documents turn. -/
theorem RflP.turned_docs (h : RflP w F q S L) {vd : Value} {rs : List RawD} {dl : List DocS} (hFG : ∀ k, F k → G k) (hm : ∀ k, F k → k ≠ q → L.vd.ownBlock ≠ some k → w'.heap[k]? = w.heap[k]?)
    (hb : w'.heap[q]? = some (.cells #[L.vs, L.va, vd, L.vl] 71 (0, 0))) (hd : kD.R 78 w' 0 G vd rs) (hl : rs.length = dl.length) (hD : (∀ k, F k → Typed w k 9 → w'.heap[k]? = w.heap[k]?) → ∀ (j : Nat) (x : RawD) (D : DocS), rs[j]? = some x → dl[j]? = some D → RawOk w' G x D) (hlt : ∀ k, G k → k < w'.heap.size) : RflP w' G q { S with docs := dl } { L with vd := vd, rs := rs } := by
  have hm9 : ∀ k, F k → Typed w k 9 → w'.heap[k]? = w.heap[k]? := fun k hF ht => hm k hF (typed_ne ht h.tq (by decide)) (fun e => typed_ne ht (h.td e) (by decide) rfl)
  refine ⟨hb, hFG _ h.own, ?_, ?_, hd, ?_, hl, hD hm9, hlt⟩
  · exact row_over rfl h.steps hFG (fun k hk => hm k (h.steps.1 k hk) (typed_ne (h.ts hk) h.tq (by decide)) (fun e => typed_ne (h.ts hk) (h.td e) (by decide) rfl))
  · exact row_over rfl h.appr hFG (fun k hk => hm9 k (h.appr.1 k hk) (h.ta hk))
  · exact row_over rfl h.acts hFG (fun k hk => hm k (h.acts.1 k hk) (typed_ne (h.tl hk) h.tq (by decide)) (fun e => typed_ne (h.tl hk) (h.td e) (by decide) rfl))
end
def RAfter (F : Nat → Prop) (w w' : World) (q : Nat) (S : FlowS) : Prop := ∃ G, Rfl w' G q S ∧ Stp F G w w'
theorem RAfter.intro {F : Nat → Prop} {w w' : World} {q : Nat} {S : FlowS} (G : Nat → Prop) (L : RParts) (h : RflP w' G q S L) (hs : Stp F G w w') : RAfter F w w' q S := ⟨G, ⟨L, h⟩, hs⟩
theorem RAfter.then {F G : Nat → Prop} {w w1 w' : World} {q : Nat} {S : FlowS} (h : Stp F G w w1) (k : RAfter G w1 w' q S) : RAfter F w w' q S := by
  obtain ⟨H, h1, h2⟩ := k
  exact ⟨H, h1, h.trans h2⟩
theorem RAfter.below {F : Nat → Prop} {w w' : World} {q : Nat} {S : FlowS} (h : Rfl w F q S) (hb : Below w.heap.size w w') : RAfter F w w' q S := ⟨F, h.below hb, ⟨But.of_below hb F, fun _ hk => .inl hk⟩⟩
set_option maxHeartbeats 4000000 in
set_option maxRecDepth 100000 in
theorem rnote_calls (q : Nat) (S : FlowS) (L : RParts) (F : Nat → Prop) (kind id : Int) (user : ByteArray) (w : World) (h : RflP w F q S L) (hn : S.acts.length ≤ 1000000) :
    Calls Try.prog 38 #[.pointer (some ⟨q, 0, none⟩), .int .i64 kind, .int .i64 id, .string user] w fun e w' => e = .returned (.tuple #[]) ∧ RAfter F w w' q { S with acts := S.acts ++ [⟨kind, id, user⟩] } := by
  obtain ⟨vs, va, vd, vl, rs⟩ := L
  obtain ⟨A, c, e⟩ := Kd.R_slice h.acts
  have e : vl = .slice A S.acts.length c := e
  subst e
  have BK : w.heap[q]? = some (.cells #[vs, va, vd, .slice A S.acts.length c] 71 (0, 0)) := h.blk
  have c3 := (blk_cell BK 3).trans rfl
  have f3 := blk_frozen BK 3
  have HF := Aside0.mk h
  have HBK := Aside0.mk BK
  clear BK h
  go_enter Try.func38, Try.ntmps38
  go_wp2_with (first | ((with_reducible refine gate_builtin (b := .append) (xs := #[.tmp 12, .tmp 17]) rfl ?_); at_builtin; refine Kd.R_append k55 (w0 := w) 0 rfl (.tmp 12) (.tmp 17) 41 55 (.agg #[.int .i64 0, .int .i64 0, .string ⟨#[]⟩]) 32 rfl Try.underlying41 info55 rfl (by decide) (by omega) (.slice A S.acts.length c) S.acts ⟨kind, id, user⟩ [.int .i64 kind, .int .i64 id, .string user] (fun k => F k ∨ w.heap.size ≤ k) (fun _ => False) rfl rfl ?aP (fun _ hk => hk.elim) ?aF ?aO ?aB ?aS ?aL ?_; (case aP => exact k55_mkM _ _ _ _); (case aF => exact fun k hk => .inr hk); (case aO => exact Kd.R_mono HF.out.acts (fun k hk => .inl hk)); (case aB => exact Below.refl _ _); (case aS => exact Nat.zero_le _); (case aL => omega); intro v1 w1 ho hb hg hat; obtain ⟨A1, c1, rfl⟩ := Kd.R_slice ho; have HO := Aside0.mk ho; have HG := Aside0.mk hg; have HB1 := Aside0.mk (blk_grown HBK.out hg (fun e => typed_ne (HF.out.tl e.symm) HF.out.tq (by decide) rfl)); have f3' := blk_frozen HB1.out 3; have c3' := (blk_cell HB1.out 3).trans rfl; clear f3 c3 ho hb hg hat))
  go_end0
  have h := HF.out
  have hg := HG.out
  have hsz : w.heap.size ≤ w1.heap.size := hg.size
  have hpl := h.lt _ h.own
  have hst : ∀ u, (w1.setCell ⟨q, 3, none⟩ u).heap.size = w1.heap.size := fun u => by simp [World.setCell]
  refine ⟨rfl, RAfter.intro (fun k => (F k ∨ w.heap.size ≤ k) ∧ k < w1.heap.size) _ (h.turned_acts (vl := .slice A1 (S.acts.length + 1) c1) (al := S.acts ++ [⟨kind, id, user⟩]) (fun k hk => ⟨.inl hk, Nat.lt_of_lt_of_le (h.lt k hk) hsz⟩) (fun k hk hp ha => ?_) (blk_put HB1.out 3 _ rfl) ?_ (fun k hk => by rw [hst]; exact hk.2)) ⟨?_, fun k hk => hk.1⟩⟩
  · rw [Below.heap_setCell _ _ _ _ hp]
    exact hg.block k (h.lt k hk) (fun e => ha e.symm)
  · have h0 := HO.out
    rw [show (S.acts ++ [(⟨kind, id, user⟩ : S55)]).length = S.acts.length + 1 by simp] at h0
    have h1 := Kd.R_bound h0
    exact Kd.R_mono (Kd.R_far (Kd.R_types h1 HB1.out (by decide)) (fun k hk => hk.2) _) (fun k hk => ⟨hk.1.1, hk.1.2.2.1⟩)
  · exact (But.of_grown hg (fun k hk => h.acts.1 k hk)).setCell h.own _
end Go.Proofs.Ytbbhichndfbooaa.P
namespace Go.Proofs.Ytbbhichndfbooaa.P
open Go.RowKit Go.Proofs.YtbbhichndfbooaaW.PrintWords Go.Proofs.YtbbhichndfbooaaW.PrintLast Go.Proofs.YtbbhichndfbooaaW.PrintMore
attribute [local go_sem] max2_int min2_int max_two min_two max_three min_three max_four min_four   -- for this text's walks alone
set_option linter.unusedVariables false
set_option linter.unusedSimpArgs false
/-! ### accountingref15_SameTexts: function 26 -/
def accountingref15_SameTexts.l0 : Nat → List ByteArray → List ByteArray → Int → Option (Bool)
  | 0, _, _, _ => none
  | k + 1, x0, x1, x5 => if x5 < (x0.length : Int) then (if 0 ≤ x5 then (if x5 < (x1.length : Int) then (if (rdOf ByteArray.empty x0 x5).toList = (rdOf ByteArray.empty x1 x5).toList then (accountingref15_SameTexts.l0 k x0 x1 (wrap64 (x5 + 1))) else (some false)) else (none)) else (none)) else (some true)
def accountingref15_SameTexts.f (k : Nat) (l0 : List ByteArray) (l1 : List ByteArray) : Option (Bool) := if (l0.length : Int) = (l1.length : Int) then (accountingref15_SameTexts.l0 k l0 l1 0) else (some false)
theorem accountingref15_SameTexts.mono_l : ∀ k, (∀ y0 y1 y2, LeO (accountingref15_SameTexts.l0 k y0 y1 y2) (accountingref15_SameTexts.l0 (k + 1) y0 y1 y2))
  | 0 => fun _ _ _ r h => by simp [accountingref15_SameTexts.l0] at h
  | k + 1 => by
    have ih0 := accountingref15_SameTexts.mono_l k
    · intro y0 y1 y2
      unfold accountingref15_SameTexts.l0
      repeat' first
      | (with_reducible exact ih0 _ _ _)
      | (with_reducible exact LeO.refl _)
      | (with_reducible exact LeO.none _)
      | (with_reducible refine LeO.ite ?_ ?_)
      | (with_reducible refine LeO.bind ?_ (fun _ => ?_))
      | exact ih0 _ _ _
      | exact LeO.none _
      | refine LeO.ite ?_ ?_
      | refine LeO.bind ?_ (fun _ => ?_)
theorem accountingref15_SameTexts.mono : ∀ a0 a1 k, LeO (accountingref15_SameTexts.f k a0 a1) (accountingref15_SameTexts.f (k + 1) a0 a1) := by
  intro a0 a1 k
  have ih0 := accountingref15_SameTexts.mono_l k
  unfold accountingref15_SameTexts.f
  repeat' first
      | (with_reducible exact ih0 _ _ _)
      | (with_reducible exact LeO.refl _)
      | (with_reducible exact LeO.none _)
      | (with_reducible refine LeO.ite ?_ ?_)
      | (with_reducible refine LeO.bind ?_ (fun _ => ?_))
      | exact ih0 _ _ _
      | exact LeO.none _
      | refine LeO.ite ?_ ?_
      | refine LeO.bind ?_ (fun _ => ?_)
set_option maxHeartbeats 8000000 in
set_option maxRecDepth 100000 in
theorem accountingref15_SameTexts.calls (k : Nat) (A0 : Option Addr) (c0 : Nat) (l0 : List ByteArray) (A1 : Option Addr) (c1 : Nat) (l1 : List ByteArray) (r : Bool) (w : World) (hr0 : Kd.C Kd.string w A0 l0.length l0) (hc0 : l0.length ≤ c0) (hr1 : Kd.C Kd.string w A1 l1.length l1) (hc1 : l1.length ≤ c1) (h : accountingref15_SameTexts.f k l0 l1 = some r) :
    Calls Try.prog 26 #[.slice A0 l0.length c0, .slice A1 l1.length c1] w fun e w' => e = .returned (.bool r) ∧ Drawn0 w w' := by
  have HR0 := Aside0.mk hr0
  have HC0 := Aside0.mk hc0
  clear hr0 hc0
  have HR1 := Aside0.mk hr1
  have HC1 := Aside0.mk hc1
  clear hr1 hc1
  have H : (if (l0.length : Int) = (l1.length : Int) then (accountingref15_SameTexts.l0 k l0 l1 0) else (some false)) = some r := h
  clear h
  by_cases c3 : (l0.length : Int) = (l1.length : Int)
  · rw [if_pos c3] at H
    have c3b0 : ((l0.length : Int) == (l1.length : Int)) = true := beq_iff_eq.mpr c3
    have c3b1 : ((l0.length : Int) != (l1.length : Int)) = false := bne_eq_false_iff_eq.mpr c3
    have c3b2 : (l0.length == l1.length) = true := by first | simpa using c3 | (simp at c3 ⊢; omega)
    clear c3
    have H' := Aside0.mk H
    clear H
    go_enter Try.func26, Try.ntmps26
    go_wp2
    repeat (go_quiet (fail); try go_wp2)
    go_loopg [5] k (fun kq v5 w' => ∃ (x5_1 : Int), v5 = .int .i64 x5_1 ∧ Aside0 (accountingref15_SameTexts.l0 kq l0 l1 x5_1 = some r) ∧ Aside0 (kq ≤ k) ∧ Drawn0 w w')
    case atStart => exact ⟨(0), (by first | rfl | (simp; done) | (simp [*]; done)), H', ⟨Nat.le_refl _⟩, by repeat (first | exact Drawn0.refl _ | apply Drawn0.step)⟩
    case round =>
      clear H'
      try clear c1
      try clear c2
      try clear p2
      try clear c3
      try clear c3b0
      try clear c3b1
      try clear c3b2
      obtain ⟨x5_1, rfl, HA, HK1, ⟨m1, rfl⟩⟩ := hrel
      cases gk with
      | zero => exact absurd HA.out (by simp [accountingref15_SameTexts.l0])
      | succ k1 =>
        have H := HA.out
        clear HA
        simp only [accountingref15_SameTexts.l0] at H
        by_cases c4 : x5_1 < (l0.length : Int)
        · rw [if_pos c4] at H
          have c4b0 : decide (x5_1 < (l0.length : Int)) = true := decide_eq_true c4
          clear c4
          by_cases c5 : 0 ≤ x5_1
          · rw [if_pos c5] at H
            have c5b0 : decide (0 ≤ x5_1) = true := decide_eq_true c5
            clear c5
            by_cases c6 : x5_1 < (l1.length : Int)
            · rw [if_pos c6] at H
              have c6b0 : decide (x5_1 < (l1.length : Int)) = true := decide_eq_true c6
              clear c6
              by_cases c7 : (rdOf ByteArray.empty l0 x5_1).toList = (rdOf ByteArray.empty l1 x5_1).toList
              · rw [if_pos c7] at H
                have c7b0 : ((rdOf ByteArray.empty l0 x5_1).toList == (rdOf ByteArray.empty l1 x5_1).toList) = true := beq_iff_eq.mpr c7
                have c7b1 : ((rdOf ByteArray.empty l0 x5_1).toList != (rdOf ByteArray.empty l1 x5_1).toList) = false := bne_eq_false_iff_eq.mpr c7
                clear c7
                have H' := Aside0.mk H
                clear H
                have p107 : 0 ≤ (x5_1 : Int) := of_decide_eq_true (by first | (with_reducible assumption) | assumption)
                have q107 : x5_1 < (l0.length : Int) := of_decide_eq_true (by first | (with_reducible assumption) | assumption)
                obtain ⟨ad107, e107, hx107_0⟩ := Kd.at_string HR0.out x5_1 p107 q107
                cases e107
                replace p107 := eq_true p107
                replace q107 := eq_true q107
                have p108 : 0 ≤ (x5_1 : Int) := of_decide_eq_true (by first | (with_reducible assumption) | assumption)
                have q108 : x5_1 < (l1.length : Int) := of_decide_eq_true (by first | (with_reducible assumption) | assumption)
                obtain ⟨ad108, e108, hx108_0⟩ := Kd.at_string HR1.out x5_1 p108 q108
                cases e108
                replace p108 := eq_true p108
                replace q108 := eq_true q108
                go_wp2
                repeat (go_quiet (fail); try go_wp2)
                go_roundg k1
                case measure => have := HK1.out; omega
                case rel => exact ⟨(wrap64 (x5_1 + 1)), (by first | rfl | (simp; done) | (simp [*]; done)), H', ⟨by have := HK1.out; omega⟩, by repeat (first | exact Drawn0.refl _ | apply Drawn0.step)⟩
              · rw [if_neg c7] at H
                have c7b0 : ((rdOf ByteArray.empty l0 x5_1).toList == (rdOf ByteArray.empty l1 x5_1).toList) = false := beq_eq_false_iff_ne.mpr c7
                have c7b1 : ((rdOf ByteArray.empty l0 x5_1).toList != (rdOf ByteArray.empty l1 x5_1).toList) = true := bne_iff_ne.mpr c7
                obtain rfl := Option.some.inj H
                have p107 : 0 ≤ (x5_1 : Int) := of_decide_eq_true (by first | (with_reducible assumption) | assumption)
                have q107 : x5_1 < (l0.length : Int) := of_decide_eq_true (by first | (with_reducible assumption) | assumption)
                obtain ⟨ad107, e107, hx107_0⟩ := Kd.at_string HR0.out x5_1 p107 q107
                cases e107
                replace p107 := eq_true p107
                replace q107 := eq_true q107
                have p108 : 0 ≤ (x5_1 : Int) := of_decide_eq_true (by first | (with_reducible assumption) | assumption)
                have q108 : x5_1 < (l1.length : Int) := of_decide_eq_true (by first | (with_reducible assumption) | assumption)
                obtain ⟨ad108, e108, hx108_0⟩ := Kd.at_string HR1.out x5_1 p108 q108
                cases e108
                replace p108 := eq_true p108
                replace q108 := eq_true q108
                go_wp2
                repeat (go_quiet (fail); try go_wp2)
                go_ret
                exact ⟨by first | rfl | (simp; done) | (simp [*]; done), by repeat (first | exact Drawn0.refl _ | apply Drawn0.step)⟩
            · rw [if_neg c6] at H
              exact absurd H (by simp)
          · rw [if_neg c5] at H
            exact absurd H (by simp)
        · rw [if_neg c4] at H
          have c4b0 : decide (x5_1 < (l0.length : Int)) = false := decide_eq_false c4
          clear c4
          obtain rfl := Option.some.inj H
          go_wp2
          repeat (go_quiet (fail); try go_wp2)
          go_ret
          exact ⟨by first | rfl | (simp; done) | (simp [*]; done), by repeat (first | exact Drawn0.refl _ | apply Drawn0.step)⟩
  · rw [if_neg c3] at H
    have c3b0 : ((l0.length : Int) == (l1.length : Int)) = false := beq_eq_false_iff_ne.mpr c3
    have c3b1 : ((l0.length : Int) != (l1.length : Int)) = true := bne_iff_ne.mpr c3
    have c3b2 : (l0.length == l1.length) = false := by first | simpa using c3 | (simp at c3 ⊢; omega)
    obtain rfl := Option.some.inj H
    go_enter Try.func26, Try.ntmps26
    go_wp2
    repeat (go_quiet (fail); try go_wp2)
    go_ret
    exact ⟨by first | rfl | (simp; done) | (simp [*]; done), by repeat (first | exact Drawn0.refl _ | apply Drawn0.step)⟩
end Go.Proofs.Ytbbhichndfbooaa.P
namespace Go.Proofs.Ytbbhichndfbooaa.P
open Go.RowKit Go.Proofs.YtbbhichndfbooaaW.PrintWords Go.Proofs.YtbbhichndfbooaaW.PrintLast Go.Proofs.YtbbhichndfbooaaW.PrintMore Go.Maps Go.ChangeShapes Go.WideShapes Go.WideMaps
set_option linter.unusedVariables false
set_option linter.unusedSimpArgs false
/-- At p lies a workflow S that was made since the world w0, of which nothing has turned. -/
structure Live (w0 w : World) (p : Nat) (S : FlowS) : Prop where
  ex : ∃ F, Flw w F p S ∧ ∀ k, F k → w0.heap.size ≤ k
  low : Below w0.heap.size w0 w
theorem Live.after {w0 w w' : World} {p : Nat} {S' : FlowS} {F : Nat → Prop} (hl : Below w0.heap.size w0 w) (hk : ∀ k, F k → w0.heap.size ≤ k) (h : After F w w' p S') : Live w0 w' p S' := by
  obtain ⟨G, hG, hs⟩ := h
  exact ⟨⟨G, hG, fun k hg => (hs.grow k hg).elim (hk k) (fun h => Nat.le_trans hl.size h)⟩, hs.but.below hl hl.size hk⟩
theorem Live.below {w0 w w' : World} {p : Nat} {S : FlowS} (h : Live w0 w p S) (hb : Below w.heap.size w w') : Live w0 w' p S := by
  obtain ⟨⟨F, hF, hk⟩, hl⟩ := h
  exact ⟨⟨F, hF.below hb, hk⟩, below_then hl hl.size hb⟩
section
variable {w0 w : World} {p : Nat} {S S' : FlowS}
theorem draft_live (h : Live w0 w p S) (user : ByteArray) (vol : Int) (hn : S.acts.length ≤ 1000000) {i e : Int} (hq : draftOf S user vol = (i, e, S')) :
    Calls Try.prog 28 #[.pointer (some ⟨p, 0, none⟩), .string user, .int .i64 vol] w fun x w' => x = .returned (.tuple #[.int .i64 i, .int .i64 e]) ∧ Live w0 w' p S' := by
  obtain ⟨⟨F, hF, hk⟩, hl⟩ := h
  refine (draft_calls p S F user vol w hF hn).mono ?_
  rw [hq]
  rintro x w' ⟨rfl, ha⟩
  exact ⟨rfl, Live.after hl hk ha⟩
theorem submit_live (h : Live w0 w p S) (id : Int) (hid : (Lit.int .i64 id).wf = true) (user : ByteArray) (hn : S.acts.length ≤ 1000000) {e : Int} (hq : submitOf S id user = (e, S')) :
    Calls Try.prog 29 #[.pointer (some ⟨p, 0, none⟩), .int .i64 id, .string user] w fun x w' => x = .returned (.int .i64 e) ∧ Live w0 w' p S' := by
  obtain ⟨⟨F, hF, hk⟩, hl⟩ := h
  refine (submit_calls p S F id hid user w hF hn).mono ?_
  rw [hq]
  rintro x w' ⟨rfl, ha⟩
  exact ⟨rfl, Live.after hl hk ha⟩
theorem approve_live (h : Live w0 w p S) (id : Int) (hid : (Lit.int .i64 id).wf = true) (user : ByteArray) (hn : S.acts.length ≤ 1000000) (ha : (docD S id).ap.length ≤ 1000000) {e : Int} (hq : approveOf S id user = (e, S')) :
    Calls Try.prog 30 #[.pointer (some ⟨p, 0, none⟩), .int .i64 id, .string user] w fun x w' => x = .returned (.int .i64 e) ∧ Live w0 w' p S' := by
  obtain ⟨⟨F, hF, hk⟩, hl⟩ := h
  refine (approve_calls p S F id hid user w hF hn ha).mono ?_
  rw [hq]
  rintro x w' ⟨rfl, ha⟩
  exact ⟨rfl, Live.after hl hk ha⟩
theorem reject_live (h : Live w0 w p S) (id : Int) (hid : (Lit.int .i64 id).wf = true) (user : ByteArray) (hn : S.acts.length ≤ 1000000) {e : Int} (hq : rejectOf S id user = (e, S')) :
    Calls Try.prog 57 #[.pointer (some ⟨p, 0, none⟩), .int .i64 id, .string user] w fun x w' => x = .returned (.int .i64 e) ∧ Live w0 w' p S' := by
  obtain ⟨⟨F, hF, hk⟩, hl⟩ := h
  refine (reject_calls p S F id hid user w hF hn).mono ?_
  rw [hq]
  rintro x w' ⟨rfl, ha⟩
  exact ⟨rfl, Live.after hl hk ha⟩
theorem redraft_live (h : Live w0 w p S) (id : Int) (hid : (Lit.int .i64 id).wf = true) (user : ByteArray) (hn : S.acts.length ≤ 1000000) {e : Int} (hq : redraftOf S id user = (e, S')) :
    Calls Try.prog 58 #[.pointer (some ⟨p, 0, none⟩), .int .i64 id, .string user] w fun x w' => x = .returned (.int .i64 e) ∧ Live w0 w' p S' := by
  obtain ⟨⟨F, hF, hk⟩, hl⟩ := h
  refine (redraft_calls p S F id hid user w hF hn).mono ?_
  rw [hq]
  rintro x w' ⟨rfl, ha⟩
  exact ⟨rfl, Live.after hl hk ha⟩
theorem cancel_live (h : Live w0 w p S) (id : Int) (hid : (Lit.int .i64 id).wf = true) (user : ByteArray) (hn : S.acts.length ≤ 1000000) {e : Int} (hq : cancelOf S id user = (e, S')) :
    Calls Try.prog 59 #[.pointer (some ⟨p, 0, none⟩), .int .i64 id, .string user] w fun x w' => x = .returned (.int .i64 e) ∧ Live w0 w' p S' := by
  obtain ⟨⟨F, hF, hk⟩, hl⟩ := h
  refine (cancel_calls p S F id hid user w hF hn).mono ?_
  rw [hq]
  rintro x w' ⟨rfl, ha⟩
  exact ⟨rfl, Live.after hl hk ha⟩
theorem post_live (h : Live w0 w p S) (id : Int) (hid : (Lit.int .i64 id).wf = true) (user : ByteArray) (hn : S.acts.length ≤ 1000000) {e : Int} (hq : postOf S id user = (e, S')) :
    Calls Try.prog 31 #[.pointer (some ⟨p, 0, none⟩), .int .i64 id, .string user] w fun x w' => x = .returned (.int .i64 e) ∧ Live w0 w' p S' := by
  obtain ⟨⟨F, hF, hk⟩, hl⟩ := h
  refine (post_calls p S F id hid user w hF hn).mono ?_
  rw [hq]
  rintro x w' ⟨rfl, ha⟩
  exact ⟨rfl, Live.after hl hk ha⟩
theorem state_live (h : Live w0 w p S) (id : Int) (hid : (Lit.int .i64 id).wf = true) {s : Int} (hq : stOf S id = s) :
    Calls Try.prog 15 #[.pointer (some ⟨p, 0, none⟩), .int .i64 id] w fun x w' => x = .returned (.int .i64 s) ∧ w' = w := by
  obtain ⟨⟨F, hF, hk⟩, hl⟩ := h
  have := state_calls p S F id hid w hF
  rw [hq] at this
  exact this
theorem need_live (h : Live w0 w p S) (v : Int) {n : Int} {ok : Bool} (hq : needOf S.steps v = (n, ok)) :
    Calls Try.prog 13 #[.pointer (some ⟨p, 0, none⟩), .int .i64 v] w fun x w' => x = .returned (.tuple #[.int .i64 n, .bool ok]) ∧ Live w0 w' p S := by
  have h2 := h
  obtain ⟨⟨F, hF, hk⟩, hl⟩ := h
  refine (need_is hq hF).mono ?_
  rintro x w' ⟨rfl, hb⟩
  exact ⟨rfl, h2.below hb⟩
theorem acts_live (h : Live w0 w p S) {n : Nat} (hl : S.acts.length = n) (hn : n ≤ 1000000) :
    Calls Try.prog 16 #[.pointer (some ⟨p, 0, none⟩)] w fun x w' => (∃ A c, x = .returned (.slice A n c) ∧ n ≤ c ∧ Kd.C k55 w' A n S.acts) ∧ Live w0 w' p S := by
  subst hl
  have h2 := h
  obtain ⟨⟨F, hF, hk⟩, hl⟩ := h
  refine (acts_calls p S F w hF hn).mono ?_
  rintro x w' ⟨v, rfl, hr, hb⟩
  obtain ⟨A, c, rfl, hc, hC⟩ := Kd.R_reads hr
  exact ⟨⟨A, c, rfl, hc, hC⟩, h2.below hb⟩
theorem approvals_live (h : Live w0 w p S) (id : Int) (hid : (Lit.int .i64 id).wf = true) {l : List ByteArray} (hq : apOf S id = l) (hn : l.length ≤ 1000000) :
    Calls Try.prog 23 #[.pointer (some ⟨p, 0, none⟩), .int .i64 id] w fun x w' => (∃ A c, x = .returned (.slice A l.length c) ∧ l.length ≤ c ∧ Kd.string.C w' A l.length l) ∧ Live w0 w' p S := by
  have h2 := h
  obtain ⟨⟨F, hF, hk⟩, hl⟩ := h
  subst hq
  refine (approvals_calls p S F id hid w hF hn).mono ?_
  rintro x w' ⟨v, rfl, hr, hb⟩
  obtain ⟨A, c, rfl, hc, hC⟩ := Kd.R_reads hr
  exact ⟨⟨A, c, rfl, hc, hC⟩, h2.below hb⟩
end
def ann : ByteArray := ⟨#[97, 110, 110]⟩
def bob : ByteArray := ⟨#[98, 111, 98]⟩
def cid : ByteArray := ⟨#[99, 105, 100]⟩
def E0 : FlowS := ⟨[⟨100, 0⟩, ⟨5000, 2⟩], [ann, bob, cid], [], []⟩
def E1 : FlowS := (draftOf E0 ann 700).2.2
def E2 : FlowS := (submitOf E1 1 ann).2
def E3 : FlowS := (approveOf E2 1 ann).2
def E4 : FlowS := (approveOf E3 1 bob).2
def E5 : FlowS := (approveOf E4 1 bob).2
def E6 : FlowS := (approveOf E5 1 cid).2
def E7 : FlowS := (postOf E6 1 ann).2
def E8 : FlowS := (draftOf E7 ann 50).2.2
def E9 : FlowS := (submitOf E8 2 ann).2
def E10 : FlowS := (draftOf E9 ann 6000).2.2
def E11 : FlowS := (submitOf E10 3 ann).2
theorem e0 : newErr true E0.steps E0.appr = 0 := by decide +kernel
theorem e1 : draftOf E0 ann 700 = (1, 0, E1) := Prod.ext (by decide +kernel) (Prod.ext (by decide +kernel) rfl)
theorem e2 : submitOf E1 1 ann = (0, E2) := Prod.ext (by decide +kernel) rfl
theorem e3 : approveOf E2 1 ann = (19, E3) := Prod.ext (by decide +kernel) rfl
theorem e4 : approveOf E3 1 bob = (0, E4) := Prod.ext (by decide +kernel) rfl
theorem e5 : approveOf E4 1 bob = (8, E5) := Prod.ext (by decide +kernel) rfl
theorem e6 : approveOf E5 1 cid = (0, E6) := Prod.ext (by decide +kernel) rfl
theorem e6s : stOf E6 1 = 3 := by decide +kernel
theorem e7 : postOf E6 1 ann = (0, E7) := Prod.ext (by decide +kernel) rfl
theorem e8 : draftOf E7 ann 50 = (2, 0, E8) := Prod.ext (by decide +kernel) (Prod.ext (by decide +kernel) rfl)
theorem e9 : submitOf E8 2 ann = (0, E9) := Prod.ext (by decide +kernel) rfl
theorem e10 : draftOf E9 ann 6000 = (3, 0, E10) := Prod.ext (by decide +kernel) (Prod.ext (by decide +kernel) rfl)
theorem e10n : needOf E10.steps 6000 = (0, false) := Prod.ext (by decide +kernel) (by decide +kernel)
theorem e10s : stOf E10 1 = 5 := by decide +kernel
theorem e10t : stOf E10 2 = 3 := by decide +kernel
theorem e11 : submitOf E10 3 ann = (3, E11) := Prod.ext (by decide +kernel) rfl
theorem e11l : E11.acts.length = 8 := by decide +kernel
theorem e11a : apOf E11 1 = [bob, cid] := by kernel_rfl
theorem right_ex : ∃ k, flow_right.f k E0.steps = some true := ⟨10, by decide +kernel⟩
theorem lit_S (W : World) (xs : List ByteArray) (hm : xs.length ≤ 9223372036854775807) : Kd.string.C (W.alloc (.cells (encs Value.string xs).toArray 9)) (some ⟨W.heap.size, 0, none⟩) xs.length xs :=
  (Kd.R_reads' (Kd.R_of_own (own_lit_of W 0 9 xs (Nat.zero_le _) hm) (ok := fun _ => True) (h1 := fun _ => rfl) (fun _ _ => trivial))).2.2
theorem lit_60 (W : World) : Kd.C k60 (W.alloc (.cells #[.int .i64 100, .int .i64 0, .int .i64 5000, .int .i64 2] 60)) (some ⟨W.heap.size, 0, none⟩) 2 E0.steps := by
  have hr : Reps (k60.M (W.alloc (.cells #[.int .i64 100, .int .i64 0, .int .i64 5000, .int .i64 2] 60)) 0 (fun k => True ∧ some k ≠ (Value.slice (some ⟨W.heap.size, 0, none⟩) 2 2).ownBlock)) 2 E0.steps [.int .i64 100, .int .i64 0, .int .i64 5000, .int .i64 2] :=
    ((Reps.none _ _).snoc (c := [.int .i64 100, .int .i64 0]) (p := (⟨100, 0⟩ : S60)) (k60_mkM _ _ _ ⟨100, 0⟩) rfl).snoc (c := [.int .i64 5000, .int .i64 2]) (p := (⟨5000, 2⟩ : S60)) (k60_mkM _ _ _ ⟨5000, 2⟩) rfl
  have := OwnRow.lit (e := 60) W 0 hr (Nat.zero_le _) (by decide)
  exact (Kd.R_reads' (d := k60) (ok := fun _ => True) ⟨fun _ _ => trivial, this⟩).2.2
set_option maxHeartbeats 16000000 in
set_option maxRecDepth 100000 in
theorem lives_calls (w : World) : Calls Try.prog 10 #[] w fun e w' => e = .returned (.bool true) ∧ Below w.heap.size w w' := by
  obtain ⟨kr, hkr⟩ := right_ex
  have hC1 := lit_S (w.alloc (.cells #[.int .i64 100, .int .i64 0, .int .i64 5000, .int .i64 2] 60)) E0.appr (by decide)
  rw [show (w.alloc (.cells #[.int .i64 100, .int .i64 0, .int .i64 5000, .int .i64 2] 60)).heap.size = w.heap.size + 1 by simp] at hC1
  have H1 := Aside0.mk hC1
  have H0 := Aside0.mk (Kd.C_alloc (lit_60 w) (.cells (encs Value.string E0.appr).toArray 9))
  have HR := Aside0.mk hkr
  clear hC1 hkr
  go_enter Try.func10, Try.ntmps10
  go_upto_region 2 with (first | (go_at_call 11; refine (new_calls (some ⟨w.heap.size, 0, none⟩) 2 E0.steps (some ⟨w.heap.size + 1, 0, none⟩) 3 E0.appr _ H0.out (by decide) H1.out kr true HR.out).mono ?_; rw [e0]; rintro e w1 ⟨hb, ⟨hx, _⟩ | ⟨_, p, F, rfl, hF, hk⟩⟩; (try exact absurd rfl hx); have HL0 := Aside0.mk (Live.mk (w0 := w) ⟨F, hF, fun k hk' => Nat.le_trans (by simp; omega) (hk k hk')⟩ (below_then (below_alloc (below_alloc (Below.refl _ w) _) _) (by simp; omega) hb)); clear hb hF hk))
  go_upto_region 5 with (first | (go_at_call 28; refine (draft_live HL0.out ann 700 (by decide +kernel) e1).mono ?_; rintro e w2 ⟨rfl, hl_⟩; have HL1 := Aside0.mk hl_; clear hl_ HL0))
  go_upto_region 6 with (first | (go_at_call 29; refine (submit_live HL1.out 1 (by decide) ann (by decide +kernel) e2).mono ?_; rintro e w3 ⟨rfl, hl_⟩; have HL2 := Aside0.mk hl_; clear hl_ HL1))
  go_upto_region 7 with (first | (go_at_call 30; refine (approve_live HL2.out 1 (by decide) ann (by decide +kernel) (by decide +kernel) e3).mono ?_; rintro e w4 ⟨rfl, hl_⟩; have HL3 := Aside0.mk hl_; clear hl_ HL2))
  go_upto_region 8 with (first | (go_at_call 30; refine (approve_live HL3.out 1 (by decide) bob (by decide +kernel) (by decide +kernel) e4).mono ?_; rintro e w5 ⟨rfl, hl_⟩; have HL4 := Aside0.mk hl_; clear hl_ HL3))
  go_upto_region 9 with (first | (go_at_call 30; refine (approve_live HL4.out 1 (by decide) bob (by decide +kernel) (by decide +kernel) e5).mono ?_; rintro e w6 ⟨rfl, hl_⟩; have HL5 := Aside0.mk hl_; clear hl_ HL4))
  go_upto_region 10 with (first | (go_at_call 30; refine (approve_live HL5.out 1 (by decide) cid (by decide +kernel) (by decide +kernel) e6).mono ?_; rintro e w7 ⟨rfl, hl_⟩; have HL6 := Aside0.mk hl_; clear hl_ HL5))
  go_upto_region 11 with (first | (go_at_call 15; refine (state_live HL6.out 1 (by decide) e6s).mono ?_; rintro e w_ ⟨rfl, he_⟩; obtain rfl := he_.symm))
  go_upto_region 12 with (first | (go_at_call 31; refine (post_live HL6.out 1 (by decide) ann (by decide +kernel) e7).mono ?_; rintro e w8 ⟨rfl, hl_⟩; have HL7 := Aside0.mk hl_; clear hl_ HL6))
  go_upto_region 13 with (first | (go_at_call 28; refine (draft_live HL7.out ann 50 (by decide +kernel) e8).mono ?_; rintro e w9 ⟨rfl, hl_⟩; have HL8 := Aside0.mk hl_; clear hl_ HL7))
  go_upto_region 14 with (first | (go_at_call 29; refine (submit_live HL8.out 2 (by decide) ann (by decide +kernel) e9).mono ?_; rintro e w10 ⟨rfl, hl_⟩; have HL9 := Aside0.mk hl_; clear hl_ HL8))
  go_upto_region 15 with (first | (go_at_call 28; refine (draft_live HL9.out ann 6000 (by decide +kernel) e10).mono ?_; rintro e w11 ⟨rfl, hl_⟩; have HL10 := Aside0.mk hl_; clear hl_ HL9))
  go_wp2_with (first | (go_at_call 13; refine (need_live HL10.out 6000 e10n).mono ?_; rintro e w12 ⟨rfl, hl_⟩; have HLa := Aside0.mk hl_; clear hl_ HL10) | (go_at_call 15; (with_reducible refine (state_live HLa.out 1 (by decide) e10s).mono ?_); rintro e w_ ⟨rfl, he_⟩; obtain rfl := he_.symm) | (go_at_call 15; (with_reducible refine (state_live HLa.out 2 (by decide) e10t).mono ?_); rintro e w_ ⟨rfl, he_⟩; obtain rfl := he_.symm) | (go_at_call 29; refine (submit_live HLa.out 3 (by decide) ann (by decide +kernel) e11).mono ?_; rintro e w13 ⟨rfl, hl_⟩; have HL11 := Aside0.mk hl_; clear hl_ HLa) | (go_at_call 16; refine (acts_live HL11.out e11l (by decide)).mono ?_; rintro e w14 ⟨⟨A0, c0, rfl, _, _⟩, hl_⟩; have HL12 := Aside0.mk hl_; clear hl_ HL11) | (go_at_call 23; refine (approvals_live HL12.out 1 (by decide) e11a (by decide)).mono ?_; rintro e w15 ⟨⟨A1, c1, rfl, hc1, hC1⟩, hl_⟩; have HL13 := Aside0.mk hl_; have HC1 := Aside0.mk hC1; have HCC := Aside0.mk hc1; clear hl_ HL12 hC1 hc1) | (go_at_call 26; refine (accountingref15_SameTexts.calls 10 A1 c1 [bob, cid] (some ⟨w15.heap.size, 0, none⟩) 2 [bob, cid] true _ (Kd.C_alloc HC1.out _) HCC.out (lit_S w15 [bob, cid] (by decide)) (by decide) (by decide +kernel)).mono ?_; rintro e w16 ⟨rfl, hd_⟩; have HD := Aside0.mk hd_; clear hd_))
  go_ret
  exact ⟨rfl, below_then (below_alloc HL13.out.low _) (by have := HL13.out.low.size; simp; omega) HD.out.below⟩
theorem find_nil (id : Int) (user : ByteArray) (who : Int) (v : Value) (w : World) : Calls Try.prog 48 #[.pointer none, .int .i64 id, .string user, .int .i64 who, v] w fun e w' => e = .returned (.tuple #[.pointer none, .int .i64 1]) ∧ w' = w := by
  go_enter Try.func48, Try.ntmps48
  go_wp2_with (first | (go_at_call 36; refine (doc_nil id _).mono ?_; rintro e w' ⟨rfl, he_⟩; obtain rfl := he_.symm))
  go_ret2
  exact ⟨rfl, rfl⟩
theorem move_nil (kind id : Int) (user : ByteArray) (who st : Int) (v : Value) (w : World) : Calls Try.prog 50 #[.pointer none, .int .i64 kind, .int .i64 id, .string user, .int .i64 who, .int .i64 st, v] w fun e w' => e = .returned (.int .i64 1) ∧ w' = w := by
  go_enter Try.func50, Try.ntmps50
  go_wp2_with (first | (go_at_call 48; refine (find_nil id user who v _).mono ?_; rintro e w' ⟨rfl, he_⟩; obtain rfl := he_.symm))
  go_ret
  exact ⟨rfl, rfl⟩
def NilPost (w w' : World) (x : Ending) : Prop := x = .returned (.int .i64 1) ∧ Below w.heap.size w w'
theorem submit_nil (id : Int) (user : ByteArray) (w : World) : Calls Try.prog 29 #[.pointer none, .int .i64 id, .string user] w fun e w' => NilPost w w' e := by
  go_enter Try.func29, Try.ntmps29
  go_wp2_with (first | (go_at_call 48; refine (find_nil id user 0 _ _).mono ?_; rintro e w' ⟨rfl, he_⟩; obtain rfl := he_.symm))
  go_ret
  exact ⟨rfl, below_alloc (Below.refl _ _) _⟩
theorem approve_nil (id : Int) (user : ByteArray) (w : World) : Calls Try.prog 30 #[.pointer none, .int .i64 id, .string user] w fun e w' => NilPost w w' e := by
  go_enter Try.func30, Try.ntmps30
  go_wp2_with (first | (go_at_call 48; refine (find_nil id user 1 _ _).mono ?_; rintro e w' ⟨rfl, he_⟩; obtain rfl := he_.symm))
  go_ret
  exact ⟨rfl, below_alloc (Below.refl _ _) _⟩
theorem reject_nil (id : Int) (user : ByteArray) (w : World) : Calls Try.prog 57 #[.pointer none, .int .i64 id, .string user] w fun e w' => NilPost w w' e := by
  go_enter Try.func57, Try.ntmps57
  go_wp2_with (first | (go_at_call 50; refine (move_nil 4 id user 1 4 _ _).mono ?_; rintro e w' ⟨rfl, he_⟩; obtain rfl := he_.symm))
  go_ret
  exact ⟨rfl, below_alloc (Below.refl _ _) _⟩
theorem redraft_nil (id : Int) (user : ByteArray) (w : World) : Calls Try.prog 58 #[.pointer none, .int .i64 id, .string user] w fun e w' => NilPost w w' e := by
  go_enter Try.func58, Try.ntmps58
  go_wp2_with (first | (go_at_call 50; refine (move_nil 5 id user 0 1 _ _).mono ?_; rintro e w' ⟨rfl, he_⟩; obtain rfl := he_.symm))
  go_ret
  exact ⟨rfl, below_alloc (Below.refl _ _) _⟩
theorem cancel_nil (id : Int) (user : ByteArray) (w : World) : Calls Try.prog 59 #[.pointer none, .int .i64 id, .string user] w fun e w' => NilPost w w' e := by
  go_enter Try.func59, Try.ntmps59
  go_wp2_with (first | (go_at_call 50; refine (move_nil 6 id user 0 6 _ _).mono ?_; rintro e w' ⟨rfl, he_⟩; obtain rfl := he_.symm))
  go_ret
  exact ⟨rfl, below_alloc (Below.refl _ _) _⟩
theorem post_nil (id : Int) (user : ByteArray) (w : World) : Calls Try.prog 31 #[.pointer none, .int .i64 id, .string user] w fun e w' => NilPost w w' e := by
  go_enter Try.func31, Try.ntmps31
  go_wp2_with (first | (go_at_call 50; refine (move_nil 7 id user 2 5 _ _).mono ?_; rintro e w' ⟨rfl, he_⟩; obtain rfl := he_.symm))
  go_ret
  exact ⟨rfl, below_alloc (Below.refl _ _) _⟩
def actOf (S : FlowS) (kind id : Int) (user : ByteArray) : Int × FlowS :=
  if kind = 2 then submitOf S id user else if kind = 3 then approveOf S id user else if kind = 4 then rejectOf S id user else if kind = 5 then redraftOf S id user else if kind = 6 then cancelOf S id user else postOf S id user
def playOf (S : FlowS) (o : S46) : Int × Int × FlowS := if o.f0 = 1 then draftOf S o.f2 o.f3 else (0, (actOf S o.f0 o.f1 o.f2).1, (actOf S o.f0 o.f1 o.f2).2)
set_option maxHeartbeats 4000000 in
theorem act_nil (kind id : Int) (user : ByteArray) (w : World) : Calls Try.prog 37 #[.pointer none, .int .i64 kind, .int .i64 id, .string user] w fun e w' => NilPost w w' e := by
  by_cases h2 : kind = 2
  · subst h2
    go_enter Try.func37, Try.ntmps37
    go_wp2_with (first | (go_at_call 29; refine (submit_nil id user _).mono ?_; rintro e w' ⟨rfl, hb_⟩; have HB := Aside0.mk hb_; clear hb_))
    go_ret
    exact ⟨rfl, HB.out⟩
  have d2 : (kind == (2 : Int)) = false := beq_eq_false_iff_ne.mpr h2
  by_cases h3 : kind = 3
  · subst h3
    clear h2 d2
    go_enter Try.func37, Try.ntmps37
    go_wp2_with (first | (go_at_call 30; refine (approve_nil id user _).mono ?_; rintro e w' ⟨rfl, hb_⟩; have HB := Aside0.mk hb_; clear hb_))
    go_ret
    exact ⟨rfl, HB.out⟩
  have d3 : (kind == (3 : Int)) = false := beq_eq_false_iff_ne.mpr h3
  by_cases h4 : kind = 4
  · subst h4
    clear h2 d2 h3 d3
    go_enter Try.func37, Try.ntmps37
    go_wp2_with (first | (go_at_call 57; refine (reject_nil id user _).mono ?_; rintro e w' ⟨rfl, hb_⟩; have HB := Aside0.mk hb_; clear hb_))
    go_ret
    exact ⟨rfl, HB.out⟩
  have d4 : (kind == (4 : Int)) = false := beq_eq_false_iff_ne.mpr h4
  by_cases h5 : kind = 5
  · subst h5
    clear h2 d2 h3 d3 h4 d4
    go_enter Try.func37, Try.ntmps37
    go_wp2_with (first | (go_at_call 58; refine (redraft_nil id user _).mono ?_; rintro e w' ⟨rfl, hb_⟩; have HB := Aside0.mk hb_; clear hb_))
    go_ret
    exact ⟨rfl, HB.out⟩
  have d5 : (kind == (5 : Int)) = false := beq_eq_false_iff_ne.mpr h5
  by_cases h6 : kind = 6
  · subst h6
    clear h2 d2 h3 d3 h4 d4 h5 d5
    go_enter Try.func37, Try.ntmps37
    go_wp2_with (first | (go_at_call 59; refine (cancel_nil id user _).mono ?_; rintro e w' ⟨rfl, hb_⟩; have HB := Aside0.mk hb_; clear hb_))
    go_ret
    exact ⟨rfl, HB.out⟩
  have d6 : (kind == (6 : Int)) = false := beq_eq_false_iff_ne.mpr h6
  clear h2 h3 h4 h5 h6
  go_enter Try.func37, Try.ntmps37
  go_wp2_with (first | (go_at_call 31; refine (post_nil id user _).mono ?_; rintro e w' ⟨rfl, hb_⟩; have HB := Aside0.mk hb_; clear hb_))
  go_ret
  exact ⟨rfl, HB.out⟩
set_option maxHeartbeats 4000000 in
theorem act_live {w0 w : World} {p : Nat} {S S' : FlowS} (h : Live w0 w p S) (kind id : Int) (hid : (Lit.int .i64 id).wf = true) (user : ByteArray) (hn : S.acts.length ≤ 1000000) (ha : (docD S id).ap.length ≤ 1000000) {e : Int} (hq : actOf S kind id user = (e, S')) :
    Calls Try.prog 37 #[.pointer (some ⟨p, 0, none⟩), .int .i64 kind, .int .i64 id, .string user] w fun x w' => x = .returned (.int .i64 e) ∧ Live w0 w' p S' := by
  have HL := Aside0.mk h
  clear h
  unfold actOf at hq
  by_cases h2 : kind = 2
  · subst h2
    have hq' : submitOf S id user = (e, S') := hq
    clear hq
    go_enter Try.func37, Try.ntmps37
    go_wp2_with (first | (go_at_call 29; refine (submit_live HL.out id hid user hn hq').mono ?_; rintro e w' ⟨rfl, hl_⟩; have HN := Aside0.mk hl_; clear hl_))
    go_ret
    exact ⟨rfl, HN.out⟩
  rw [if_neg h2] at hq
  have d2 : (kind == (2 : Int)) = false := beq_eq_false_iff_ne.mpr h2
  by_cases h3 : kind = 3
  · subst h3
    clear h2 d2
    have hq' : approveOf S id user = (e, S') := hq
    clear hq
    go_enter Try.func37, Try.ntmps37
    go_wp2_with (first | (go_at_call 30; refine (approve_live HL.out id hid user hn ha hq').mono ?_; rintro e w' ⟨rfl, hl_⟩; have HN := Aside0.mk hl_; clear hl_))
    go_ret
    exact ⟨rfl, HN.out⟩
  rw [if_neg h3] at hq
  have d3 : (kind == (3 : Int)) = false := beq_eq_false_iff_ne.mpr h3
  by_cases h4 : kind = 4
  · subst h4
    clear h2 d2 h3 d3
    have hq' : rejectOf S id user = (e, S') := hq
    clear hq
    go_enter Try.func37, Try.ntmps37
    go_wp2_with (first | (go_at_call 57; refine (reject_live HL.out id hid user hn hq').mono ?_; rintro e w' ⟨rfl, hl_⟩; have HN := Aside0.mk hl_; clear hl_))
    go_ret
    exact ⟨rfl, HN.out⟩
  rw [if_neg h4] at hq
  have d4 : (kind == (4 : Int)) = false := beq_eq_false_iff_ne.mpr h4
  by_cases h5 : kind = 5
  · subst h5
    clear h2 d2 h3 d3 h4 d4
    have hq' : redraftOf S id user = (e, S') := hq
    clear hq
    go_enter Try.func37, Try.ntmps37
    go_wp2_with (first | (go_at_call 58; refine (redraft_live HL.out id hid user hn hq').mono ?_; rintro e w' ⟨rfl, hl_⟩; have HN := Aside0.mk hl_; clear hl_))
    go_ret
    exact ⟨rfl, HN.out⟩
  rw [if_neg h5] at hq
  have d5 : (kind == (5 : Int)) = false := beq_eq_false_iff_ne.mpr h5
  by_cases h6 : kind = 6
  · subst h6
    clear h2 d2 h3 d3 h4 d4 h5 d5
    have hq' : cancelOf S id user = (e, S') := hq
    clear hq
    go_enter Try.func37, Try.ntmps37
    go_wp2_with (first | (go_at_call 59; refine (cancel_live HL.out id hid user hn hq').mono ?_; rintro e w' ⟨rfl, hl_⟩; have HN := Aside0.mk hl_; clear hl_))
    go_ret
    exact ⟨rfl, HN.out⟩
  rw [if_neg h6] at hq
  have d6 : (kind == (6 : Int)) = false := beq_eq_false_iff_ne.mpr h6
  clear h2 h3 h4 h5 h6
  go_enter Try.func37, Try.ntmps37
  go_wp2_with (first | (go_at_call 31; refine (post_live HL.out id hid user hn hq).mono ?_; rintro e w' ⟨rfl, hl_⟩; have HN := Aside0.mk hl_; clear hl_))
  go_ret
  exact ⟨rfl, HN.out⟩
set_option maxHeartbeats 4000000 in
theorem play_nil (o : S46) (w : World) : Calls Try.prog 17 #[.pointer none, .agg #[.int .i64 o.f0, .int .i64 o.f1, .string o.f2, .int .i64 o.f3]] w fun e w' => e = .returned (.tuple #[.int .i64 0, .int .i64 1]) ∧ Below w.heap.size w w' := by
  go_enter Try.func17, Try.ntmps17
  go_upto_region 1 with (fail)
  refine with_world (P := fun x => Code.wp _ _ _ _ x) _ ?_
  intro w1 hw1
  have BK : w1.heap[w.heap.size]? = some (.cells #[.int .i64 o.f0, .int .i64 o.f1, .string o.f2, .int .i64 o.f3] 46 (0, 0)) := by rw [hw1]; exact blk_new w _
  have HB1 := Aside0.mk (show Below w.heap.size w w1 from by rw [hw1]; exact below_alloc (Below.refl _ _) _)
  obtain ⟨g, hg⟩ : ∃ g, w.heap.size = g := ⟨_, rfl⟩
  rw [hg] at BK ⊢
  clear hw1 hg
  have c0 := (blk_cell BK 0).trans rfl
  have c1 := (blk_cell BK 1).trans rfl
  have c2 := (blk_cell BK 2).trans rfl
  have c3 := (blk_cell BK 3).trans rfl
  clear BK
  by_cases hk : o.f0 = 1
  · have hd : (o.f0 == (1 : Int)) = true := by rw [hk]; rfl
    clear hk
    go_wp2_with (first | (go_at_call 28; refine (draft_nil o.f2 o.f3 _).mono ?_; rintro e w' ⟨rfl, he_⟩; obtain rfl := he_.symm))
    go_ret2
    exact ⟨rfl, HB1.out⟩
  · have hd : (o.f0 == (1 : Int)) = false := beq_eq_false_iff_ne.mpr hk
    clear hk
    go_wp2_with (first | (go_at_call 37; refine (act_nil o.f0 o.f1 o.f2 _).mono ?_; rintro e w' ⟨rfl, hb_⟩; have HB := Aside0.mk hb_; clear hb_))
    go_ret2
    exact ⟨rfl, below_then HB1.out HB1.out.size HB.out⟩
set_option maxHeartbeats 4000000 in
theorem play_live {w0 w : World} {p : Nat} {S S' : FlowS} (h : Live w0 w p S) (o : S46) (hid : (Lit.int .i64 o.f1).wf = true) (hn : S.acts.length ≤ 1000000) (ha : (docD S o.f1).ap.length ≤ 1000000) {i e : Int} (hq : playOf S o = (i, e, S')) :
    Calls Try.prog 17 #[.pointer (some ⟨p, 0, none⟩), .agg #[.int .i64 o.f0, .int .i64 o.f1, .string o.f2, .int .i64 o.f3]] w fun x w' => x = .returned (.tuple #[.int .i64 i, .int .i64 e]) ∧ Live w0 w' p S' := by
  have HL := Aside0.mk h
  clear h
  unfold playOf at hq
  go_enter Try.func17, Try.ntmps17
  go_upto_region 1 with (fail)
  refine with_world (P := fun x => Code.wp _ _ _ _ x) _ ?_
  intro w1 hw1
  have BK : w1.heap[w.heap.size]? = some (.cells #[.int .i64 o.f0, .int .i64 o.f1, .string o.f2, .int .i64 o.f3] 46 (0, 0)) := by rw [hw1]; exact blk_new w _
  have HB1 := Aside0.mk (show Below w.heap.size w w1 from by rw [hw1]; exact below_alloc (Below.refl _ _) _)
  obtain ⟨g, hg⟩ : ∃ g, w.heap.size = g := ⟨_, rfl⟩
  rw [hg] at BK ⊢
  clear hw1 hg
  have c0 := (blk_cell BK 0).trans rfl
  have c1 := (blk_cell BK 1).trans rfl
  have c2 := (blk_cell BK 2).trans rfl
  have c3 := (blk_cell BK 3).trans rfl
  clear BK
  have HL1 := Aside0.mk (HL.out.below HB1.out)
  by_cases hk : o.f0 = 1
  · have hd : (o.f0 == (1 : Int)) = true := by rw [hk]; rfl
    rw [if_pos hk] at hq
    have HQ := Aside0.mk hq
    clear hk hq
    go_wp2_with (first | (go_at_call 28; refine (draft_live HL1.out o.f2 o.f3 hn HQ.out).mono ?_; rintro x w' ⟨rfl, hl_⟩; have HN := Aside0.mk hl_; clear hl_))
    go_ret2
    exact ⟨rfl, HN.out⟩
  · have hd : (o.f0 == (1 : Int)) = false := beq_eq_false_iff_ne.mpr hk
    rw [if_neg hk] at hq
    obtain ⟨rfl, hq2⟩ := Prod.mk.inj hq
    obtain ⟨he, hS⟩ := Prod.mk.inj hq2
    have HQ := Aside0.mk (show actOf S o.f0 o.f1 o.f2 = (e, S') from Prod.ext he hS)
    clear hk hq hq2 he hS
    go_wp2_with (first | (go_at_call 37; refine (act_live HL1.out o.f0 o.f1 hid o.f2 hn ha HQ.out).mono ?_; rintro x w' ⟨rfl, hl_⟩; have HN := Aside0.mk hl_; clear hl_))
    go_ret2
    exact ⟨rfl, HN.out⟩
set_option maxHeartbeats 4000000 in
theorem act_after {w : World} {F : Nat → Prop} {p : Nat} {S S' : FlowS} (h : Flw w F p S) (kind id : Int) (hid : (Lit.int .i64 id).wf = true) (user : ByteArray) (hn : S.acts.length ≤ 1000000) (ha : (docD S id).ap.length ≤ 1000000) {e : Int} (hq : actOf S kind id user = (e, S')) :
    Calls Try.prog 37 #[.pointer (some ⟨p, 0, none⟩), .int .i64 kind, .int .i64 id, .string user] w fun x w' => x = .returned (.int .i64 e) ∧ After F w w' p S' := by
  have HF := Aside0.mk h
  clear h
  unfold actOf at hq
  by_cases h2 : kind = 2
  · subst h2
    have hq' : submitOf S id user = (e, S') := hq
    have hcall := submit_calls p S F id hid user
    rw [hq'] at hcall
    have HC := Aside0.mk hcall
    clear hq hq' hcall
    go_enter Try.func37, Try.ntmps37
    go_wp2_with (first | (go_at_call 29; refine (HC.out _ HF.out hn).mono ?_; rintro e w' ⟨rfl, hl_⟩; have HN := Aside0.mk hl_; clear hl_))
    go_ret
    exact ⟨rfl, HN.out⟩
  rw [if_neg h2] at hq
  have d2 : (kind == (2 : Int)) = false := beq_eq_false_iff_ne.mpr h2
  by_cases h3 : kind = 3
  · subst h3
    clear h2 d2
    have hq' : approveOf S id user = (e, S') := hq
    have hcall := approve_calls p S F id hid user
    rw [hq'] at hcall
    have HC := Aside0.mk hcall
    clear hq hq' hcall
    go_enter Try.func37, Try.ntmps37
    go_wp2_with (first | (go_at_call 30; refine (HC.out _ HF.out hn ha).mono ?_; rintro e w' ⟨rfl, hl_⟩; have HN := Aside0.mk hl_; clear hl_))
    go_ret
    exact ⟨rfl, HN.out⟩
  rw [if_neg h3] at hq
  have d3 : (kind == (3 : Int)) = false := beq_eq_false_iff_ne.mpr h3
  by_cases h4 : kind = 4
  · subst h4
    clear h2 d2 h3 d3
    have hq' : rejectOf S id user = (e, S') := hq
    have hcall := reject_calls p S F id hid user
    rw [hq'] at hcall
    have HC := Aside0.mk hcall
    clear hq hq' hcall
    go_enter Try.func37, Try.ntmps37
    go_wp2_with (first | (go_at_call 57; refine (HC.out _ HF.out hn).mono ?_; rintro e w' ⟨rfl, hl_⟩; have HN := Aside0.mk hl_; clear hl_))
    go_ret
    exact ⟨rfl, HN.out⟩
  rw [if_neg h4] at hq
  have d4 : (kind == (4 : Int)) = false := beq_eq_false_iff_ne.mpr h4
  by_cases h5 : kind = 5
  · subst h5
    clear h2 d2 h3 d3 h4 d4
    have hq' : redraftOf S id user = (e, S') := hq
    have hcall := redraft_calls p S F id hid user
    rw [hq'] at hcall
    have HC := Aside0.mk hcall
    clear hq hq' hcall
    go_enter Try.func37, Try.ntmps37
    go_wp2_with (first | (go_at_call 58; refine (HC.out _ HF.out hn).mono ?_; rintro e w' ⟨rfl, hl_⟩; have HN := Aside0.mk hl_; clear hl_))
    go_ret
    exact ⟨rfl, HN.out⟩
  rw [if_neg h5] at hq
  have d5 : (kind == (5 : Int)) = false := beq_eq_false_iff_ne.mpr h5
  by_cases h6 : kind = 6
  · subst h6
    clear h2 d2 h3 d3 h4 d4 h5 d5
    have hq' : cancelOf S id user = (e, S') := hq
    have hcall := cancel_calls p S F id hid user
    rw [hq'] at hcall
    have HC := Aside0.mk hcall
    clear hq hq' hcall
    go_enter Try.func37, Try.ntmps37
    go_wp2_with (first | (go_at_call 59; refine (HC.out _ HF.out hn).mono ?_; rintro e w' ⟨rfl, hl_⟩; have HN := Aside0.mk hl_; clear hl_))
    go_ret
    exact ⟨rfl, HN.out⟩
  rw [if_neg h6] at hq
  have d6 : (kind == (6 : Int)) = false := beq_eq_false_iff_ne.mpr h6
  clear h2 h3 h4 h5 h6
  have hcall := post_calls p S F id hid user
  rw [hq] at hcall
  have HC := Aside0.mk hcall
  clear hq hcall
  go_enter Try.func37, Try.ntmps37
  go_wp2_with (first | (go_at_call 31; refine (HC.out _ HF.out hn).mono ?_; rintro e w' ⟨rfl, hl_⟩; have HN := Aside0.mk hl_; clear hl_))
  go_ret
  exact ⟨rfl, HN.out⟩
set_option maxHeartbeats 4000000 in
theorem play_after {w : World} {F : Nat → Prop} {p : Nat} {S S' : FlowS} (h : Flw w F p S) (o : S46) (hid : (Lit.int .i64 o.f1).wf = true) (hn : S.acts.length ≤ 1000000) (ha : (docD S o.f1).ap.length ≤ 1000000) {i e : Int} (hq : playOf S o = (i, e, S')) :
    Calls Try.prog 17 #[.pointer (some ⟨p, 0, none⟩), .agg #[.int .i64 o.f0, .int .i64 o.f1, .string o.f2, .int .i64 o.f3]] w fun x w' => x = .returned (.tuple #[.int .i64 i, .int .i64 e]) ∧ After F w w' p S' := by
  have HF := Aside0.mk h
  clear h
  unfold playOf at hq
  go_enter Try.func17, Try.ntmps17
  go_upto_region 1 with (fail)
  refine with_world (P := fun x => Code.wp _ _ _ _ x) _ ?_
  intro w1 hw1
  have BK : w1.heap[w.heap.size]? = some (.cells #[.int .i64 o.f0, .int .i64 o.f1, .string o.f2, .int .i64 o.f3] 46 (0, 0)) := by rw [hw1]; exact blk_new w _
  have HB1 := Aside0.mk (show Below w.heap.size w w1 from by rw [hw1]; exact below_alloc (Below.refl _ _) _)
  obtain ⟨g, hg⟩ : ∃ g, w.heap.size = g := ⟨_, rfl⟩
  rw [hg] at BK ⊢
  clear hw1 hg
  have c0 := (blk_cell BK 0).trans rfl
  have c1 := (blk_cell BK 1).trans rfl
  have c2 := (blk_cell BK 2).trans rfl
  have c3 := (blk_cell BK 3).trans rfl
  clear BK
  have HF1 := Aside0.mk (HF.out.below HB1.out)
  have HS1 := Aside0.mk ((Stp.refl F w).below HB1.out)
  by_cases hk : o.f0 = 1
  · have hd : (o.f0 == (1 : Int)) = true := by rw [hk]; rfl
    rw [if_pos hk] at hq
    have hcall := draft_calls p S F o.f2 o.f3
    rw [hq] at hcall
    have HC := Aside0.mk hcall
    clear hk hq hcall
    go_wp2_with (first | (go_at_call 28; refine (HC.out _ HF1.out hn).mono ?_; rintro x w' ⟨rfl, hl_⟩; have HN := Aside0.mk hl_; clear hl_))
    go_ret2
    exact ⟨rfl, After.then HS1.out HN.out⟩
  · have hd : (o.f0 == (1 : Int)) = false := beq_eq_false_iff_ne.mpr hk
    rw [if_neg hk] at hq
    obtain ⟨rfl, hq2⟩ := Prod.mk.inj hq
    obtain ⟨he, hS⟩ := Prod.mk.inj hq2
    have HQ := Aside0.mk (show actOf S o.f0 o.f1 o.f2 = (e, S') from Prod.ext he hS)
    clear hk hq hq2 he hS
    go_wp2_with (first | (go_at_call 37; refine (act_after HF1.out o.f0 o.f1 hid o.f2 hn ha HQ.out).mono ?_; rintro x w' ⟨rfl, hl_⟩; have HN := Aside0.mk hl_; clear hl_))
    go_ret2
    exact ⟨rfl, After.then HS1.out HN.out⟩
end Go.Proofs.Ytbbhichndfbooaa.P
