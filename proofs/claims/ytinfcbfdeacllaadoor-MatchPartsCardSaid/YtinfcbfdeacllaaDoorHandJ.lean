/- Texts of mine, joined: HandS, HandTake, HandSame, HandNear, HandGrp, HandIdx, HandRun0, SpecChk, HandRun, HandRgt. -/
import Derived.Test.YtinfcbfdeacllaaDoorPx0
import Derived.Test.YtinfcbfdeacllaaDoorPx6
import Derived.Maps.OwnRows
import Derived.Maps.OwnSet
import Derived.Maps.Views
import Derived.Deep.RegionLaw
import Derived.Deep.AppendLies
import Derived.Deep.RegionHeld3
import Derived.RegionTactic
import Derived.StillTactics
import Derived.Test.YtinfcbfdeacllaaDoorPxJ
import Derived.Test.YtinfcbfdeacllaaDoorHandSum
import Derived.Test.YtinfcbfdeacllaaDoorPx13
/- The state of a search: what match.Run and its methods keep in memory, and what they are proved to compute. -/
namespace Go.Proofs.YtinfcbfdeacllaaDoor.P
open Go.RowKit Go.Proofs.YtinfcbfdeacllaaDoorW.PrintWords Go.Proofs.YtinfcbfdeacllaaDoorW.PrintLast Go.Proofs.YtinfcbfdeacllaaDoorW.PrintMore Go.Maps Go.ChangeShapes Go.WideShapes Go.WideMaps
set_option linter.unusedVariables false
set_option linter.unusedSimpArgs false

/-! ### The world but for some blocks -/
/-- Nothing that lay has turned, but for the blocks in X. -/
structure But (X : Nat → Prop) (w w' : World) : Prop where
  os : w'.os = w.os
  tape : w'.tape = w.tape
  output : w'.output = w.output
  size : w.heap.size ≤ w'.heap.size
  block : ∀ k, k < w.heap.size → ¬ X k → w'.heap[k]? = w.heap[k]?
theorem But.refl (X : Nat → Prop) (w : World) : But X w w := ⟨rfl, rfl, rfl, Nat.le_refl _, fun _ _ _ => rfl⟩
theorem But.trans {X : Nat → Prop} {a b c : World} (h : But X a b) (k : But X b c) : But X a c :=
  ⟨k.os.trans h.os, k.tape.trans h.tape, k.output.trans h.output, Nat.le_trans h.size k.size, fun i hi hx => (k.block i (Nat.lt_of_lt_of_le hi h.size) hx).trans (h.block i hi hx)⟩
theorem But.mono {X Y : Nat → Prop} {w w' : World} (h : But X w w') (hx : ∀ k, X k → Y k) : But Y w w' := ⟨h.os, h.tape, h.output, h.size, fun k hk hy => h.block k hk (fun e => hy (hx k e))⟩
theorem But.of_below {w w' : World} (h : Below w.heap.size w w') (X : Nat → Prop) : But X w w' := ⟨h.os, h.tape, h.output, h.size, fun k hk _ => h.block k hk⟩
theorem But.of_grown {w w' : World} {row : Option Nat} (h : w.grownBy w' row) {X : Nat → Prop} (hx : ∀ k, row = some k → X k) : But X w w' := ⟨h.os, h.tape, h.output, h.size, fun k hk hn => h.block k hk (fun e => hn (hx k e.symm))⟩
theorem But.alloc {X : Nat → Prop} {a w : World} (h : But X a w) (o : Obj) : But X a (w.alloc o) := h.trans (But.of_below ((Below.refl _ w).alloc (Nat.le_refl _) o) X)
theorem But.drewN {X : Nat → Prop} {a w : World} (h : But X a w) (n : Nat) : But X a (w.drewN n) := h.trans (But.of_below (pw_below_drewN (Below.refl _ w) n) X)
theorem But.setCell {X : Nat → Prop} {a w : World} (h : But X a w) {p : Addr} (hp : X p.block) (u : Value) : But X a (w.setCell p u) :=
  h.trans ⟨rfl, rfl, rfl, by simp [World.setCell], fun k hk hn => Below.heap_setCell _ _ _ _ (fun e => hn (by rw [e]; exact hp))⟩
theorem But.below {X : Nat → Prop} {w0 w w' : World} {n : Nat} (h0 : Below n w0 w) (h : But X w w') (hn : n ≤ w.heap.size) (hx : ∀ k, X k → n ≤ k) : Below n w0 w' :=
  h0.trans ⟨h.os, h.tape, h.output, h.size, fun k hk => h.block k (by omega) (fun e => by have := hx k e; omega)⟩
theorem But.own {X : Nat → Prop} {a w w' : World} {row : Option Nat} (h : But X a w) (hg : w.grownBy w' row) (hr : ∀ k, row = some k → a.heap.size ≤ k) : But X a w' :=
  ⟨hg.os.trans h.os, hg.tape.trans h.tape, hg.output.trans h.output, Nat.le_trans h.size hg.size, fun k hk hx => (hg.block k (Nat.lt_of_lt_of_le hk h.size) (fun e => by have := hr k e.symm; omega)).trans (h.block k hk hx)⟩
/-- A block that lay is what it was. -/
theorem But.obj {X : Nat → Prop} {w w' : World} (h : But X w w') {k : Nat} {o : Obj} (ho : w.heap[k]? = some o) (hx : ¬ X k) : w'.heap[k]? = some o := (h.block k (Array.getElem?_eq_some_iff.1 ho).1 hx).trans ho
theorem But.rows {X : Nat → Prop} {α : Type} {d : Kd α} {w0 w w' : World} {A : Option Addr} {n : Nat} {xs : List α} (hC : d.C w0 A n xs) (h0 : Below w0.heap.size w0 w) : d.C w A n xs := Kd.C_below hC h0

/-! ### A map whose elements are taken as they lie -/
def vR (v : Value) : Option (DataW Value × List MemPlace) := some (.held v, [])
def nilS : Value := .slice none 0 0
theorem zero42 (w : World) : (zeroValue 42).run Tryd.prog w = .ok (.slice none 0 0) w := by kernel_rfl
theorem intKeyed : Keyed Tryd.prog 3 := int_keyed Tryd.underlying3
theorem strKeyed : Keyed Tryd.prog 9 := string_keyed Tryd.underlying9
/-- Block b is a map from ints whose element at i is F i. -/
def MapI (w : World) (b n : Nat) (F : Int → Value) : Prop := ∃ D : DataW Value, w.ownsMap Tryd.prog 3 vR b n D ∧ ∀ i, (Lit.int .i64 i).wf = true → D.atKey (.int .i64 i) (.held nilS) = .held (F i)
theorem MapI.made (w : World) : MapI (w.alloc (.map #[] 0)) w.heap.size 0 (fun _ => nilS) := ⟨_, World.ownsMap_made w _ _ _, fun _ _ => rfl⟩
theorem keyI {i : Int} (h : (Lit.int .i64 i).wf = true) : keyOf Tryd.prog 3 (.int .i64 i) = some (.int .i64 i) := keyOf_int_mk Tryd.underlying3 h
theorem MapI.look {w : World} {b n : Nat} {F : Int → Value} (h : MapI w b n F) {i : Int} (hi : (Lit.int .i64 i).wf = true) : (Instr.lookup 60 (.map (some b)) (.int .i64 i) false).run Tryd.prog w = .ok (F i) w := by
  obtain ⟨D, ho, hD⟩ := h
  obtain ⟨v, ps, hrun, hv⟩ := ho.lookup intKeyed Tryd.underlying60 (zero42 w) (zd := .held nilS) (zp := []) rfl (keyI hi)
  rw [hrun]
  simp only [vR, Option.some.injEq, Prod.mk.injEq] at hv
  rw [hD i hi] at hv
  simp only [DataW.held.injEq] at hv
  rw [hv.1]
theorem MapI.store {w : World} {b n : Nat} {F : Int → Value} (h : MapI w b n F) (hn : n < maxLen) {i : Int} (hi : (Lit.int .i64 i).wf = true) (v : Value) :
    ∃ w', (Instr.mapUpdate 60 (.map (some b)) (.int .i64 i) v).run Tryd.prog w = .ok () w' ∧ MapI w' b (n + 1) (fun j => if j = i then v else F j) ∧ w.grownBy w' (some b) := by
  obtain ⟨D, ho, hD⟩ := h
  obtain ⟨w', hrun, ho', hg⟩ := ho.update intKeyed Tryd.underlying60 hn (val := v) (d := .held v) (ps := []) (keyI hi) rfl
  refine ⟨w', hrun, ⟨_, ho', fun j hj => ?_⟩, hg⟩
  by_cases e : j = i
  · subst e
    show _ = DataW.held (if j = j then v else F j)
    rw [if_pos rfl]
    exact atKey_put_same ho.isMap (intKeyed.key (keyI hi)) _ _
  · show _ = DataW.held (if j = i then v else F j)
    rw [if_neg e, atKey_put_other (by intro h'; cases h'; exact e rfl)]
    exact hD j hj
theorem MapI.but {X : Nat → Prop} {w w' : World} {b n : Nat} {F : Int → Value} (h : MapI w b n F) (hb : But X w w') (hx : ¬ X b) : MapI w' b n F := by
  obtain ⟨D, ⟨es, clock, h1, h2⟩, hD⟩ := h
  exact ⟨D, ⟨es, clock, hb.obj h1 hx, h2⟩, hD⟩
theorem MapI.lt {w : World} {b n : Nat} {F : Int → Value} (h : MapI w b n F) : b < w.heap.size := by obtain ⟨D, ho, _⟩ := h; exact ho.lt
theorem MapI.mono {w : World} {b n m : Nat} {F : Int → Value} (h : MapI w b n F) (hm : n ≤ m) : MapI w b m F := by
  obtain ⟨D, ho, hD⟩ := h
  exact ⟨D, ho.mono hm, hD⟩

/-! ### The lines by their references -/
/-- The numbers of the first k lines of the books that are not used and bear the reference s (not empty). -/
def refsTo (books : List S52) (used : List Bool) (k : Nat) (s : ByteArray) : List Int :=
  ((List.range k).filter (fun (j : Nat) => !(rdOf false used (j : Int)) && ((rd_T52 books (j : Int)).f3.toList == s.toList && s.toList != []))).map (fun (j : Nat) => (j : Int))
/-- What the map of references reads as, in terms of a function. -/
def Agr (D : DataW Unit) (L : ByteArray → List Int) : Prop := ∀ s : ByteArray, s.size ≤ maxLen → (L s = [] ∧ D.atKey (.string s.data.toList) .nil = .nil) ∨ (D.atKey (.string s.data.toList) .nil = .slice (lits .i64 (L s)) [])
/-- Block b is the map of references: it reads as L; its rows lie from base on. -/
def RefsAt (w : World) (base b n : Nat) (L : ByteArray → List Int) : Prop := ∃ D : DataW Unit, w.ownsGroups Tryd.prog 9 base 3 .i64 b n D ∧ Agr D L
theorem keyS {s : ByteArray} (h : s.size ≤ maxLen) : keyOf Tryd.prog 9 (.string s) = some (.string s.data.toList) := keyOf_string_mk Tryd.underlying9 h
theorem lits_inj {a b : List Int} (h : lits (H := Unit) .i64 a = lits .i64 b) : a = b := by
  unfold lits at h
  exact (List.map_inj_right (fun x y hxy => by cases hxy; rfl)).1 h
theorem rowDatum_eq {w : World} {base : Nat} {v : Value} {zs l : List Int} {D : DataW Unit} (ho : w.ownsInts base 3 .i64 v zs) (hat : D = rowDatum .i64 v zs) (h : (l = [] ∧ D = .nil) ∨ D = .slice (lits .i64 l) []) : zs = l := by
  rcases ho.datum (H := Unit) with ⟨h1, h2⟩ | h1
  · rcases h with ⟨h3, h4⟩ | h4
    · rw [h2, h3]
    · rw [hat, h1] at h4; cases h4
  · rcases h with ⟨h3, h4⟩ | h4
    · rw [hat, h1] at h4; cases h4
    · rw [hat, h1] at h4
      simp only [DataW.slice.injEq, and_true] at h4
      exact lits_inj h4
/-- What a look-up hands over hangs on the map's block alone. -/
theorem look_any {R : Value → Option (DataW Unit × List MemPlace)} {b : Nat} {es : Array MapEntry} {clock : Nat} (F0 : WideElems.Fit Tryd.prog 9 R es clock) {s : ByteArray} (hs : s.size ≤ maxLen) :
    ∃ v, ∀ W : World, W.heap[b]? = some (.map es clock) → (Instr.lookup 61 (.map (some b)) (.string s) false).run Tryd.prog W = .ok v W := by
  have F : WideElems.Fit Tryd.prog 9 vR es clock := ⟨F0.size, F0.stamped, fun x hx => by
    obtain ⟨y, hy⟩ := F0.reads x hx
    exact ⟨(y.1, .held x.val), by simp [WideElems.rd, WideElems.rd_key hy, vR]⟩⟩
  have two : ∀ W1 W2 : World, W1.heap[b]? = some (.map es clock) → W2.heap[b]? = some (.map es clock) → ∀ v, (Instr.lookup 61 (.map (some b)) (.string s) false).run Tryd.prog W1 = .ok v W1 → (Instr.lookup 61 (.map (some b)) (.string s) false).run Tryd.prog W2 = .ok v W2 := by
    intro W1 W2 h1 h2 v hv
    rcases Maps.fit_look false strKeyed Tryd.underlying61 (zero42 W1) h1 F (keyS hs) with ⟨r1, _, a1⟩ | ⟨e1, y1, _, _, r1, R1, a1, _⟩ <;> rcases Maps.fit_look false strKeyed Tryd.underlying61 (zero42 W2) h2 F (keyS hs) with ⟨r2, _, a2⟩ | ⟨e2, y2, _, _, r2, R2, a2, _⟩
    · rw [hv] at r1
      injection r1 with r1 _
      rw [r2, r1]
    · have := (a1 .nil).symm.trans (a2 .nil)
      obtain rfl : y2 = (.held e2.val, []) := (Option.some.inj R2).symm
      cases this
    · have := (a1 .nil).symm.trans (a2 .nil)
      obtain rfl : y1 = (.held e1.val, []) := (Option.some.inj R1).symm
      cases this
    · have := (a1 .nil).symm.trans (a2 .nil)
      obtain rfl : y1 = (.held e1.val, []) := (Option.some.inj R1).symm
      obtain rfl : y2 = (.held e2.val, []) := (Option.some.inj R2).symm
      simp only [DataW.held.injEq] at this
      rw [hv] at r1
      injection r1 with r1 _
      rw [r2, r1]
      simp [this]
  by_cases hex : ∃ W : World, W.heap[b]? = some (.map es clock)
  · obtain ⟨W1, h1⟩ := hex
    rcases Maps.fit_look false strKeyed Tryd.underlying61 (zero42 W1) h1 F (keyS hs) with ⟨r1, _⟩ | ⟨e1, y1, _, _, r1, _⟩
    · exact ⟨_, fun W hW => two W1 W h1 hW _ r1⟩
    · exact ⟨_, fun W hW => two W1 W h1 hW _ r1⟩
  · exact ⟨undef, fun W hW => absurd ⟨W, hW⟩ hex⟩
/-- The look-up: the slice at a reference, and what it owns. -/
theorem RefsAt.look {w : World} {base b n : Nat} {L : ByteArray → List Int} (h : RefsAt w base b n L) (hn : n < maxLen) {s : ByteArray} (hs : s.size ≤ maxLen) :
    ∃ v, (∀ W : World, W.heap[b]? = w.heap[b]? → (Instr.lookup 61 (.map (some b)) (.string s) false).run Tryd.prog W = .ok v W) ∧ w.ownsInts base 3 .i64 v (L s) := by
  obtain ⟨D, ho, hA⟩ := h
  obtain ⟨v, zs, hrun, hat, hoi, _, _⟩ := ho.at strKeyed Tryd.underlying61 (zero42 w) hn (keyS hs)
  obtain ⟨es, clock, hb, F, _⟩ := ho
  obtain ⟨v', hv'⟩ := look_any (b := b) F hs
  have e := hv' w hb
  rw [hrun] at e
  injection e with e _
  subst e
  refine ⟨_, fun W hW => hv' W (hW.trans hb), ?_⟩
  have := rowDatum_eq hoi rfl (l := L s) (by rw [← hat]; exact hA s hs)
  rw [← this]; exact hoi
theorem groups_but {H : Type} {P : Program} {k : TypeId} {w w' : World} {base : Nat} {e : TypeId} {q : IntKind} {b n : Nat} {D : DataW H} {X : Nat → Prop} (h : w.ownsGroups P k base e q b n D) (hg : But X w w') (hb' : ¬ X b) (hx : ∀ j, X j → j < base) : w'.ownsGroups P k base e q b n D := by
  obtain ⟨es, clock, hb, F, hs, rfl, hbb, hlen, hap⟩ := h
  have hk : ∀ {v : Value} {zs : List Int}, w.ownsInts base e q v zs → w'.ownsInts base e q v zs := fun {v zs} ho =>
    ⟨own_move ho.1 (fun j hj => hg.block j (ho.1.lt j hj).2 (fun hX => by have := hx j hX; have := (ho.1.lt j hj).1; omega)), ho.2⟩
  have hst : ∀ x ∈ es.toList, ∀ z, rowElem (H := H) w base e q x.val = some z → rowElem w' base e q x.val = some z := fun x hx z hz => by
    obtain ⟨zs, ho, rfl⟩ := rowElem_inv hz
    exact rowElem_mk (hk ho)
  obtain ⟨F1, hmap, _⟩ := F.stay hst
  refine ⟨es, clock, hg.obj hb hb', F1, hs, by rw [hmap], hbb, fun x hx zs ho => ?_, hap⟩
  obtain ⟨y, hy⟩ := F.reads x hx
  obtain ⟨z, hz, _⟩ := WideElems.rd_val hy
  obtain ⟨zs0, ho0, _⟩ := rowElem_inv hz
  rw [ho.unique (hk ho0)]
  exact hlen x hx zs0 ho0
theorem RefsAt.but {X : Nat → Prop} {w w' : World} {base b n : Nat} {L : ByteArray → List Int} (h : RefsAt w base b n L) (hg : But X w w') (hb : ¬ X b) (hx : ∀ j, X j → j < base) : RefsAt w' base b n L := by
  obtain ⟨D, ho, hA⟩ := h
  exact ⟨D, groups_but ho hg hb hx, hA⟩

/-! ### A row of numbers, wherever it lies -/
/-- The slice v reads as zs: nil; or it begins its block, which lies from base on. -/
def Row (w : World) (base : Nat) (v : Value) (zs : List Int) : Prop :=
  (v = .slice none 0 0 ∧ zs = []) ∨ ∃ g cap cur t, v = .slice (some ⟨g, 0, none⟩) zs.length cap ∧ zs.length ≤ cap ∧ cap ≤ maxLen ∧ base ≤ g ∧ w.heap[g]? = some (.cells cur t (0, 0)) ∧ cur.toList.take zs.length = zs.map (Value.int .i64)
theorem Row.but {X : Nat → Prop} {w w' : World} {base : Nat} {v : Value} {zs : List Int} (h : Row w base v zs) (hb : But X w w') (hx : ∀ k, X k → k < base) : Row w' base v zs := by
  rcases h with h | ⟨g, cap, cur, t, h1, h2, h3, h4, h5, h6⟩
  · exact .inl h
  · exact .inr ⟨g, cap, cur, t, h1, h2, h3, h4, hb.obj h5 (fun e => by have := hx g e; omega), h6⟩
theorem Row.lower {w : World} {base base' : Nat} {v : Value} {zs : List Int} (h : Row w base v zs) (hb : base' ≤ base) : Row w base' v zs := by
  rcases h with h | ⟨g, cap, cur, t, h1, h2, h3, h4, h5, h6⟩
  · exact .inl h
  · exact .inr ⟨g, cap, cur, t, h1, h2, h3, by omega, h5, h6⟩
theorem Row.of_own {w : World} {base : Nat} {e : TypeId} {v : Value} {zs : List Int} (h : w.ownsRow base e 1 v zs.length (zs.map (Value.int .i64))) : Row w base v zs := by
  rcases h.2 with ⟨rfl, h0⟩ | ⟨g, cap, cur, rfl, hg, hh, hn, hm, hc, ht⟩
  · exact .inl ⟨rfl, List.length_eq_zero_iff.1 h0⟩
  · exact .inr ⟨g, cap, cur, e, rfl, hn, hm, hg, hh, by rw [Nat.mul_one] at ht; exact ht⟩
theorem Row.slice {w : World} {base : Nat} {v : Value} {zs : List Int} (h : Row w base v zs) : ∃ A c, v = .slice A zs.length c := by
  rcases h with ⟨rfl, rfl⟩ | ⟨g, cap, cur, t, h1, _⟩
  · exact ⟨none, 0, rfl⟩
  · exact ⟨_, _, h1⟩
theorem Row.cell {w : World} {base : Nat} {A : Option Addr} {c : Nat} {zs : List Int} (h : Row w base (.slice A zs.length c) zs) {j : Nat} (hj : j < zs.length) : ∃ g, A = some ⟨g, 0, none⟩ ∧ base ≤ g ∧ zs.length ≤ c ∧ w.cell? ⟨g, j, none⟩ = some (.int .i64 (zs.getD j 0)) := by
  rcases h with ⟨h1, rfl⟩ | ⟨g, cap, cur, t, h1, h2, h3, h4, h5, h6⟩
  · simp at hj
  · injection h1 with h1a h1b h1c
    subst h1a
    subst h1c
    refine ⟨g, rfl, h4, h2, ?_⟩
    have : cur[j]? = some (.int .i64 (zs.getD j 0)) := by
      have e1 : (cur.toList.take zs.length)[j]? = cur.toList[j]? := List.getElem?_take_of_lt hj
      rw [h6] at e1
      rw [← Array.getElem?_toList, ← e1]
      simp [List.getD, hj]
    rw [cell_of_row w g j cur t (0, 0) h5]
    exact this
/-- What it reads as, whatever else turns. -/
theorem Row.foot {w : World} {base : Nat} {A : Option Addr} {c : Nat} {zs : List Int} (h : Row w base (.slice A zs.length c) zs) : zs.length ≤ c ∧ Kd.F (Kd.int .i64) w (fun k => base ≤ k ∧ k < w.heap.size) A zs.length zs := by
  refine ⟨?_, fun W' hW => ?_⟩
  · rcases h with ⟨h1, rfl⟩ | ⟨g, cap, cur, t, h1, h2, _⟩
    · exact Nat.zero_le _
    · injection h1 with _ _ h1c
      omega
  · have hR : Row W' base (.slice A zs.length c) zs := by
      rcases h with h | ⟨g, cap, cur, t, h1, h2, h3, h4, h5, h6⟩
      · exact .inl h
      · have hlt := (Array.getElem?_eq_some_iff.1 h5).1
        exact .inr ⟨g, cap, cur, t, h1, h2, h3, h4, (hW g ⟨h4, hlt⟩ hlt).trans h5, h6⟩
    refine ⟨rfl, ?_, fun hpos => ?_⟩
    · rcases hR with ⟨h1, rfl⟩ | ⟨g, cap, cur, t, h1, h2, h3, _⟩
      · simp
      · unfold maxLen at h3; omega
    · obtain ⟨g, rfl, _, _, _⟩ := hR.cell hpos
      refine ⟨_, rfl, fun i x hx => ⟨[.int .i64 x], rfl, rfl, fun j u hu => ?_⟩⟩
      have hi := (List.getElem?_eq_some_iff.1 hx).1
      obtain ⟨g', e, _, _, hc⟩ := hR.cell hi
      obtain rfl : g = g' := by simpa using e
      match j, hu with
      | 0, hu =>
        simp only [List.getElem?_cons_zero, Option.some.injEq] at hu
        subst hu
        have : zs.getD i 0 = x := by simp [List.getD, hx]
        rw [this] at hc
        have e1 : i * (Kd.int .i64).sz + 0 = i := by show i * 1 + 0 = i; omega
        rw [e1]
        have e2 : (⟨g, 0, none⟩ : Addr).add i = ⟨g, i, none⟩ := by unfold Addr.add; split <;> simp_all
        rw [e2]
        exact hc

/-! ### The state -/
variable (sb ub fb rb : Nat) (A : Option Addr) (c0 : Nat) (books : List S52) (win : Int)
/-- The search's fields. -/
def Srch (w : World) : Prop := w.heap[sb]? = some (.cells #[.slice A books.length c0, .slice (some ⟨ub, 0, none⟩) books.length books.length, .int .i64 win, .map (some fb), .map (some rb)] 63 (0, 0))
/-- Which lines of the books are used. -/
def Usd (w : World) (used : List Bool) : Prop := used.length = books.length ∧ w.heap[ub]? = some (.cells (used.map Value.bool).toArray 4 (0, 0))
variable {sb ub fb rb A c0 books win}
theorem Srch.but {X : Nat → Prop} {w w' : World} (h : Srch sb ub fb rb A c0 books win w) (hb : But X w w') (hx : ¬ X sb) : Srch sb ub fb rb A c0 books win w' := hb.obj h hx
theorem Usd.but {X : Nat → Prop} {w w' : World} {used : List Bool} (h : Usd ub books w used) (hb : But X w w') (hx : ¬ X ub) : Usd ub books w' used := ⟨h.1, hb.obj h.2 hx⟩
theorem Srch.cells {w : World} (h : Srch sb ub fb rb A c0 books win w) : w.cell? ⟨sb, 0, none⟩ = some (.slice A books.length c0) ∧ w.cell? ⟨sb, 1, none⟩ = some (.slice (some ⟨ub, 0, none⟩) books.length books.length) ∧ w.cell? ⟨sb, 2, none⟩ = some (.int .i64 win) ∧ w.cell? ⟨sb, 3, none⟩ = some (.map (some fb)) ∧ w.cell? ⟨sb, 4, none⟩ = some (.map (some rb)) := by
  have h' : w.heap[sb]? = _ := h
  refine ⟨?_, ?_, ?_, ?_, ?_⟩ <;> (rw [cell_of_row w sb _ _ _ _ h']; rfl)
theorem Usd.cell {w : World} {used : List Bool} (h : Usd ub books w used) {j : Nat} (hj : j < books.length) : w.cell? ⟨ub, j, none⟩ = some (.bool (rdOf false used (j : Int))) := by
  rw [cell_of_row w ub j _ _ _ h.2]
  have : j < used.length := by rw [h.1]; exact hj
  simp [rdOf, List.getD, this]
theorem Usd.frozen {w : World} {used : List Bool} (h : Usd ub books w used) (j : Nat) : w.frozen? ⟨ub, j, none⟩ = false := by
  simp [World.frozen?, h.2]
theorem Usd.set {w : World} {used : List Bool} (h : Usd ub books w used) (j : Nat) (hj : j < books.length) : Usd ub books (w.setCell ⟨ub, j, none⟩ (.bool true)) (used.set j true) := by
  refine ⟨by rw [List.length_set]; exact h.1, ?_⟩
  have hlt := (Array.getElem?_eq_some_iff.1 h.2).1
  simp only [World.setCell, Array.getElem?_modify, h.2]
  simp [List.map_set]
end Go.Proofs.YtinfcbfdeacllaaDoor.P

/- The contract of (search).take: a match is recorded, its lines are used. -/
namespace Go.Proofs.YtinfcbfdeacllaaDoor.P
open Go.RowKit Go.Proofs.YtinfcbfdeacllaaDoorW.PrintWords Go.Proofs.YtinfcbfdeacllaaDoorW.PrintLast Go.Proofs.YtinfcbfdeacllaaDoorW.PrintMore Go.Maps Go.ChangeShapes Go.WideShapes Go.WideMaps
set_option linter.unusedVariables false
set_option linter.unusedSimpArgs false
def mark (used : List Bool) (zs : List Int) : List Bool := zs.foldl (fun u z => u.set z.toNat true) used
theorem mark_take (used : List Bool) (zs : List Int) (k : Nat) (h : k < zs.length) : mark used (zs.take (k + 1)) = (mark used (zs.take k)).set (zs.getD k 0).toNat true := by
  unfold mark
  rw [List.take_add_one, List.getElem?_eq_getElem h, List.foldl_append]
  simp [List.getD, h]
variable {sb ub fb rb : Nat} {A : Option Addr} {c0 : Nat} {books : List S52} {win : Int}
set_option maxHeartbeats 4000000 in
set_option maxRecDepth 100000 in
theorem take_calls (i : Int) (hi : (Lit.int .i64 i).wf = true) (v : Value) (zs : List Int) (used : List Bool) (F : Int → Value) (m base : Nat) (w : World) (hm : m < maxLen)
    (hS : Srch sb ub fb rb A c0 books win w) (hU : Usd ub books w used) (hF : MapI w fb m F) (hR : Row w base v zs) (hz : ∀ z ∈ zs, 0 ≤ z ∧ z < books.length) (h1 : sb ≠ fb) (h2 : sb ≠ ub) (h3 : ub ≠ fb) (h4 : fb < base) (h5 : ub < base) :
    Calls Tryd.prog 25 #[.pointer (some ⟨sb, 0, none⟩), .int .i64 i, v] w fun e w' => e = .returned (.tuple #[]) ∧ But (fun k => k = fb ∨ k = ub) w w' ∧ Usd ub books w' (mark used zs) ∧ MapI w' fb (m + 1) (fun j => if j = i then v else F j) := by
  obtain ⟨A', c', rfl⟩ := hR.slice
  obtain ⟨w1, hrun, hF1, hg1⟩ := hF.store hm hi (.slice A' zs.length c')
  have B1 : But (fun k => k = fb) w w1 := But.of_grown hg1 (fun k e => by cases e; rfl)
  have hS1 := hS.but B1 h1
  have hU1 := hU.but B1 h3
  have hR1 := hR.but B1 (fun k e => by omega)
  obtain ⟨s0, s1, s2, s3, s4⟩ := hS.cells
  have hlen : zs.length ≤ maxLen := by
    rcases hR with ⟨_, rfl⟩ | ⟨g, cap, cur, t, _, h2, h3, _⟩
    · simp
    · omega
  unfold maxLen at hlen
  go_enter Tryd.func25, Tryd.ntmps25
  go_wp2
  clear s0 s1 s2 s3 s4
  go_loopw [7, 16, 17, 18, 19, 20, 21, 22, 23, 24, 25, 26] (fun _ v16 _ _ _ _ _ _ _ _ _ _ wr => ∃ k : Nat, k ≤ zs.length ∧ v16 = .int .i64 k ∧ But (fun k => k = ub) w1 wr ∧ Usd ub books wr (mark used (zs.take k))) (fun _ v16 _ _ _ _ _ _ _ _ _ _ _ => zs.length - (intOf v16).toNat)
  case atStart => exact ⟨0, Nat.zero_le _, rfl, But.refl _ _, hU1⟩
  case round =>
    obtain ⟨k, hk, rfl, hB, hUk⟩ := hrel
    have hSk := hS1.but hB h2
    obtain ⟨s0, s1, s2, s3, s4⟩ := hSk.cells
    by_cases hlt : k < zs.length
    · obtain ⟨g, rfl, hg, hzc, hc⟩ := (hR1.but hB (fun k e => by omega)).cell hlt
      obtain ⟨z, hz'⟩ : ∃ z, zs.getD k 0 = z := ⟨_, rfl⟩
      have hzm : z ∈ zs := by rw [← hz']; simp [List.getD, hlt]
      obtain ⟨z0, z1⟩ := hz z hzm
      rw [hz'] at hc
      have d1 : decide ((k : Int) < (zs.length : Int)) = true := decide_eq_true (by omega)
      have d2 : decide (k < zs.length) = true := decide_eq_true hlt
      have p0 : (0 : Int) ≤ (k : Int) := by omega
      have p1 : (k : Int) < (zs.length : Int) := by omega
      have hcu := hUk.cell (j := z.toNat) (by omega)
      have hfu := hUk.frozen z.toNat
      have hU2 := hUk.set z.toNat (by omega)
      go_wp2
      go_roundw
      case rel => exact ⟨k + 1, by omega, by go_num, hB.setCell rfl _, by rw [mark_take _ _ _ hlt, hz']; exact hU2⟩
      case measure => simp [intOf]; omega
    · obtain rfl : k = zs.length := by omega
      have d1 : decide ((zs.length : Int) < (zs.length : Int)) = false := decide_eq_false (by omega)
      go_wp2
      go_end0
      rw [List.take_length] at hUk
      exact ⟨rfl, (B1.mono (fun k e => .inl e)).trans (hB.mono (fun k e => .inr e)), hUk, hF1.but hB (by exact fun e => h3 e.symm)⟩
end Go.Proofs.YtinfcbfdeacllaaDoor.P

/- The contract of (search).same: the first unused line with the same reference and amount. -/
namespace Go.Proofs.YtinfcbfdeacllaaDoor.P
open Go.RowKit Go.Proofs.YtinfcbfdeacllaaDoorW.PrintWords Go.Proofs.YtinfcbfdeacllaaDoorW.PrintLast Go.Proofs.YtinfcbfdeacllaaDoorW.PrintMore Go.Maps Go.ChangeShapes Go.WideShapes Go.WideMaps
set_option linter.unusedVariables false
set_option linter.unusedSimpArgs false
def isSame (books : List S52) (used : List Bool) (l : S50) (z : Int) : Bool := !(rdOf false used z) && (rd_T52 books z).f2 == l.f1
def pickOf : Option Int → List Int
  | some z => [z]
  | none => []
def pickSame (books : List S52) (used : List Bool) (L : List Int) (l : S50) : List Int := if l.f2.toList = [] then [] else pickOf (L.find? (isSame books used l))
theorem find_none (p : Int → Bool) (zs : List Int) (h : ∀ j, j < zs.length → p (zs.getD j 0) = false) : zs.find? p = none := by
  rw [List.find?_eq_none]
  intro x hx
  obtain ⟨j, hj, rfl⟩ := List.getElem_of_mem hx
  have := h j hj
  rw [List.getD_eq_getElem?_getD, List.getElem?_eq_getElem hj] at this
  simpa using this
theorem find_at (p : Int → Bool) : ∀ (zs : List Int) (k : Nat), k < zs.length → (∀ j, j < k → p (zs.getD j 0) = false) → p (zs.getD k 0) = true → zs.find? p = some (zs.getD k 0)
  | [], k, hk, _, _ => by simp at hk
  | x :: r, 0, _, _, h => by
    have h0 : p x = true := h
    rw [List.find?_cons, h0]; rfl
  | x :: r, k + 1, hk, h1, h2 => by
    have h0 : p x = false := h1 0 (by omega)
    rw [List.find?_cons, h0]
    exact find_at p r k (by simpa using hk) (fun j hj => h1 (j + 1) (by omega)) h2
variable {sb ub fb rb : Nat} {A : Option Addr} {c0 : Nat} {books : List S52} {win : Int}
set_option maxHeartbeats 4000000 in
set_option maxRecDepth 100000 in
theorem same_calls (l : S50) (used : List Bool) (L : ByteArray → List Int) (base n : Nat) (w : World) (hn : n < maxLen) (hs : l.f2.size ≤ maxLen)
    (hS : Srch sb ub fb rb A c0 books win w) (hU : Usd ub books w used) (hB : Kd.C k52 w A books.length books) (hc0 : books.length ≤ c0) (hR : RefsAt w base rb n L) (hL : ∀ z ∈ L l.f2, 0 ≤ z ∧ z < books.length) :
    Calls Tryd.prog 26 #[.pointer (some ⟨sb, 0, none⟩), .agg #[.int .i64 l.f0, .int .i64 l.f1, .string l.f2, .string l.f3]] w fun e w' => ∃ v, e = .returned v ∧ But (fun _ => False) w w' ∧ Row w' w.heap.size v (pickSame books used (L l.f2) l) := by
  have hu50 := Tryd.underlying50
  obtain ⟨w1, hw1⟩ : ∃ w1, w1 = w.alloc (.cells #[.int .i64 l.f0, .int .i64 l.f1, .string l.f2, .string l.f3] 50) := ⟨_, rfl⟩
  have B1 : But (fun _ => False) w w1 := by rw [hw1]; exact (But.refl _ w).alloc _
  have BK : w1.heap[w.heap.size]? = some (.cells #[.int .i64 l.f0, .int .i64 l.f1, .string l.f2, .string l.f3] 50 (0, 0)) := by rw [hw1]; exact blk_new w _
  have hS1 := hS.but B1 (fun e => e)
  have hU1 := hU.but B1 (fun e => e)
  have hB1 : Kd.C k52 w1 A books.length books := Kd.C_below hB ⟨B1.os, B1.tape, B1.output, B1.size, fun k hk => B1.block k hk (fun e => e)⟩
  have hR1 := hR.but B1 (fun e => e) (fun j e => e.elim)
  obtain ⟨s0, s1, s2, s3, s4⟩ := hS1.cells
  obtain ⟨v, hlook, hoi⟩ := hR1.look hn hs
  have hRow := Row.of_own hoi.1
  obtain ⟨Av, cv, rfl⟩ := hRow.slice
  obtain ⟨zs, hzs⟩ : ∃ zs, L l.f2 = zs := ⟨_, rfl⟩
  rw [hzs] at hlook hoi hRow hL
  have hlen : zs.length ≤ maxLen := by
    rcases hRow with ⟨_, rfl⟩ | ⟨g, cap, cur, t, _, h2, h3, _⟩
    · simp
    · omega
  unfold maxLen at hlen
  have b0 := (blk_cell BK 0).trans rfl
  have b1 := (blk_cell BK 1).trans rfl
  have b2 := (blk_cell BK 2).trans rfl
  unfold pickSame
  rw [hzs]
  by_cases hE : l.f2.toList = []
  · rw [if_pos hE]
    have hE1 : (l.f2.toList == ([] : List UInt8)) = true := by rw [hE]; rfl
    go_enter Tryd.func26, Tryd.ntmps26
    go_wp2
    go_ret
    exact ⟨_, rfl, hw1 ▸ B1, .inl ⟨rfl, rfl⟩⟩
  · rw [if_neg hE]
    have hE1 : (l.f2.toList == ([] : List UInt8)) = false := beq_eq_false_iff_ne.mpr hE
    obtain ⟨out, hout⟩ : ∃ out, pickOf (zs.find? (isSame books used l)) = out := ⟨_, rfl⟩
    rw [hout]
    have HO := Aside0.mk hout
    clear hout
    have hl2 : ∀ n, (Instr.lookup 61 (.map (some rb)) (.string l.f2) false).run Tryd.prog (w1.drewN n) = .ok (.slice Av zs.length cv) (w1.drewN n) := fun n => hlook _ rfl
    go_enter Tryd.func26, Tryd.ntmps26
    go_wp2
    rw [← hw1]
    clear hw1
    go_quiet (fail)
    go_wp2
    go_loopw [6, 18, 19, 20, 21, 22, 23, 24, 25, 26, 27, 28, 29, 30, 31, 32, 33, 34, 35, 36, 37, 38, 39, 40, 41, 42, 45] (fun _ v18 _ _ _ _ _ _ _ _ _ _ _ _ _ _ _ _ _ _ _ _ _ _ _ _ _ wr => ∃ k : Nat, k ≤ zs.length ∧ v18 = .int .i64 k ∧ Aside0 (∀ j, j < k → isSame books used l (zs.getD j 0) = false) ∧ Drawn0 w1 wr) (fun _ v18 _ _ _ _ _ _ _ _ _ _ _ _ _ _ _ _ _ _ _ _ _ _ _ _ _ _ => zs.length - (intOf v18).toNat)
    case atStart => exact ⟨0, Nat.zero_le _, rfl, ⟨fun j hj => by omega⟩, by repeat (first | exact Drawn0.refl _ | apply Drawn0.step)⟩
    case round =>
      obtain ⟨k, hk, rfl, HA, ⟨n, rfl⟩⟩ := hrel
      by_cases hlt : k < zs.length
      · obtain ⟨g, rfl, hg, hzc, hc⟩ := hRow.cell hlt
        obtain ⟨z, hz'⟩ : ∃ z, zs.getD k 0 = z := ⟨_, rfl⟩
        have hzm : z ∈ zs := by rw [← hz']; simp [List.getD, hlt]
        obtain ⟨z0, z1⟩ := hL z hzm
        rw [hz'] at hc
        have d1 : decide ((k : Int) < (zs.length : Int)) = true := decide_eq_true (by omega)
        have d2 : decide (k < zs.length) = true := decide_eq_true hlt
        have p0 : (0 : Int) ≤ (k : Int) := by omega
        have p1 : (k : Int) < (zs.length : Int) := by omega
        have hcu := hU1.cell (j := z.toNat) (by omega)
        rw [show ((z.toNat : Nat) : Int) = z by omega] at hcu
        obtain ⟨ad, e, q0, q1, q2, q3⟩ := at_T52 hB1 z z0 z1
        subst e
        have goOn : isSame books used l z = false → ∀ j, j < k + 1 → isSame books used l (zs.getD j 0) = false := fun hf j hj => by
          rcases Nat.lt_or_ge j k with h | h
          · exact HA.out j h
          · obtain rfl : j = k := by omega
            rw [hz']; exact hf
        have GO := Aside0.mk goOn
        clear goOn
        cases hub : rdOf false used z
        · rw [hub] at hcu
          by_cases ham : (rd_T52 books z).f2 = l.f1
          · have hb : ((rd_T52 books z).f2 == l.f1) = true := beq_iff_eq.mpr ham
            have hfind : zs.find? (isSame books used l) = some z := by
              rw [← hz']; exact find_at _ zs k hlt HA.out (by rw [hz']; simp [isSame, hub, ham])
            have HF := Aside0.mk hfind
            clear hfind
            rw [ham] at q2
            go_wp2
            go_quiet (fail)
            go_wp2
            go_ret
            refine ⟨_, rfl, (B1.drewN _).alloc _, ?_⟩
            have ho : out = [z] := by rw [← HO.out, HF.out]; rfl
            rw [ho]
            refine .inr ⟨_, 1, #[.int .i64 z], 3, rfl, Nat.le_refl _, by decide, ?_, blk_new _ _, rfl⟩
            exact B1.size
          · have hb : ((rd_T52 books z).f2 == l.f1) = false := beq_eq_false_iff_ne.mpr ham
            go_wp2
            go_quiet (fail)
            go_wp2
            go_roundw
            case rel => exact ⟨k + 1, by omega, by go_num, ⟨GO.out (by simp [isSame, hub, ham])⟩, by repeat (first | exact Drawn0.refl _ | apply Drawn0.step)⟩
            case measure => simp [intOf]; omega
        · rw [hub] at hcu
          go_wp2
          go_quiet (fail)
          go_wp2
          go_roundw
          case rel => exact ⟨k + 1, by omega, by go_num, ⟨GO.out (by simp [isSame, hub])⟩, by repeat (first | exact Drawn0.refl _ | apply Drawn0.step)⟩
          case measure => simp [intOf]; omega
      · obtain rfl : k = zs.length := by omega
        have d1 : decide ((zs.length : Int) < (zs.length : Int)) = false := decide_eq_false (by omega)
        have hfind : zs.find? (isSame books used l) = none := find_none _ zs HA.out
        have ho : out = [] := by rw [← HO.out, hfind]; rfl
        clear hfind
        have ho := Aside0.mk ho
        go_wp2
        go_ret
        rw [ho.out]
        exact ⟨_, rfl, B1.drewN _, .inl ⟨rfl, rfl⟩⟩
end Go.Proofs.YtinfcbfdeacllaaDoor.P

/- The contract of (search).near: the unused line with the same amount whose day is nearest. -/
namespace Go.Proofs.YtinfcbfdeacllaaDoor.P
open Go.RowKit Go.Proofs.YtinfcbfdeacllaaDoorW.PrintWords Go.Proofs.YtinfcbfdeacllaaDoorW.PrintLast Go.Proofs.YtinfcbfdeacllaaDoorW.PrintMore Go.Maps Go.ChangeShapes Go.WideShapes Go.WideMaps
set_option linter.unusedVariables false
set_option linter.unusedSimpArgs false
/-- The difference of two days, as the program reckons it. -/
def apt (a b : Int) : Int := mx (wrap64 (a - b)) (wrap64 (b - a))
/-- One step of the search for the nearest line. -/
def nearStep (books : List S52) (used : List Bool) (l : S50) (best : Int × Int) (j : Nat) : Int × Int :=
  if !(rdOf false used (j : Int)) && (rd_T52 books (j : Int)).f2 == l.f1 && decide (apt (rd_T52 books (j : Int)).f1 l.f0 < best.2) then ((j : Int), apt (rd_T52 books (j : Int)).f1 l.f0) else best
def nearTo (books : List S52) (used : List Bool) (win : Int) (l : S50) (k : Nat) : Int × Int := (List.range k).foldl (nearStep books used l) (-1, wrap64 (win + 1))
def pickNear (books : List S52) (used : List Bool) (win : Int) (l : S50) : List Int := if (nearTo books used win l books.length).1 < 0 then [] else [(nearTo books used win l books.length).1]
theorem nearTo_succ (books : List S52) (used : List Bool) (win : Int) (l : S50) (k : Nat) : nearTo books used win l (k + 1) = nearStep books used l (nearTo books used win l k) k := by
  unfold nearTo
  rw [List.range_succ, List.foldl_append]
  rfl
section
attribute [local go_sem] max2_int min2_int max_two min_two max_three min_three max_four min_four
set_option maxRecDepth 100000 in
theorem apart_calls (a b : Int) (w : World) : Calls Tryd.prog 42 #[.int .i64 a, .int .i64 b] w fun e w' => e = .returned (.int .i64 (apt a b)) ∧ Drawn0 w w' := by
  obtain ⟨r, hr⟩ : ∃ r, apt a b = r := ⟨_, rfl⟩
  have hr_ : (if (wrap64 (a - b)) < (wrap64 (b - a)) then (wrap64 (b - a)) else (wrap64 (a - b))) = r := hr
  rw [hr]
  clear hr
  go_enter Tryd.func42, Tryd.ntmps42
  go_wp2
  go_ret
  exact ⟨rfl, Drawn0.refl _⟩
end
theorem with_world {P : World → Prop} (W : World) (h : ∀ w2, w2 = W → P w2) : P W := h W rfl
variable {sb ub fb rb : Nat} {A : Option Addr} {c0 : Nat} {books : List S52} {win : Int}
set_option maxHeartbeats 4000000 in
set_option maxRecDepth 100000 in
theorem near_calls (l : S50) (used : List Bool) (w : World)
    (hS : Srch sb ub fb rb A c0 books win w) (hU : Usd ub books w used) (hB : Kd.C k52 w A books.length books) (hc0 : books.length ≤ c0) :
    Calls Tryd.prog 27 #[.pointer (some ⟨sb, 0, none⟩), .agg #[.int .i64 l.f0, .int .i64 l.f1, .string l.f2, .string l.f3]] w fun e w' => ∃ v, e = .returned v ∧ But (fun _ => False) w w' ∧ Row w' w.heap.size v (pickNear books used win l) := by
  have hu50 := Tryd.underlying50
  have hu52 := Tryd.underlying52
  have hu80 := Tryd.underlying80
  have hbl : books.length ≤ 9223372036854775807 := (hB.2.1)
  obtain ⟨s0, s1, s2, s3, s4⟩ := hS.cells
  obtain ⟨w1, hw1⟩ : ∃ w1, w1 = w.alloc (.cells #[.int .i64 l.f0, .int .i64 l.f1, .string l.f2, .string l.f3] 50) := ⟨_, rfl⟩
  have B1 : But (fun _ => False) w w1 := by rw [hw1]; exact (But.refl _ w).alloc _
  have BK : w1.heap[w.heap.size]? = some (.cells #[.int .i64 l.f0, .int .i64 l.f1, .string l.f2, .string l.f3] 50 (0, 0)) := by rw [hw1]; exact blk_new w _
  have t2 := ((hS.but B1 (fun e => e)).cells).2.2.1
  have t0 := ((hS.but B1 (fun e => e)).cells).1
  have hS1 := hS.but B1 (fun e => e)
  have hU1 := hU.but B1 (fun e => e)
  have hB1 : Kd.C k52 w1 A books.length books := Kd.C_below hB ⟨B1.os, B1.tape, B1.output, B1.size, fun k hk => B1.block k hk (fun e => e)⟩
  have hSl : sb < w1.heap.size := (Array.getElem?_eq_some_iff.1 hS1).1
  have hUl : ub < w1.heap.size := (Array.getElem?_eq_some_iff.1 hU1.2).1
  go_enter Tryd.func27, Tryd.ntmps27
  go_wp2
  rw [← hw1]
  clear hw1 s0 s1 s2 s3 s4
  go_upto_region 2 with (go_step3)
  refine with_world (P := fun x => Code.wp _ _ _ _ x) _ ?_
  intro w2 hw2
  have B2 : But (fun _ => False) w1 w2 := by rw [hw2]; exact (But.refl _ w1).alloc _
  have BB2 : w2.heap[w1.heap.size]? = some (.cells #[.int .i64 (nearTo books used win l 0).1, .int .i64 (nearTo books used win l 0).2] 80 (0, 0)) := by rw [hw2]; exact blk_new w1 _
  have z2 : w1.heap.size < w2.heap.size := by rw [hw2]; simp
  clear hw2
  obtain ⟨bb, hbb⟩ : ∃ bb, w1.heap.size = bb := ⟨_, rfl⟩
  rw [hbb] at BB2 z2 hSl hUl ⊢
  have u0 := ((hS1.but B2 (fun e => e)).cells).1
  go_wp2
  go_loopw [6, 7, 19, 20, 21, 22, 23, 24, 25, 26, 27, 28, 29, 30, 31, 32, 33, 34, 35, 36, 37, 38, 39, 40, 41, 42, 43, 44, 45, 46, 47, 48, 49, 50, 51, 52, 53, 54, 55] (fun _ _ v19 _ _ _ _ _ _ _ _ _ _ _ _ _ _ _ _ _ _ _ _ _ _ _ _ _ _ _ _ _ _ _ _ _ _ _ _ wr => ∃ k : Nat, k ≤ books.length ∧ v19 = .int .i64 k ∧ Aside0 (But (fun _ => False) w1 wr) ∧ Aside0 (bb < wr.heap.size) ∧ wr.heap[bb]? = some (.cells #[.int .i64 (nearTo books used win l k).1, .int .i64 (nearTo books used win l k).2] 80 (0, 0))) (fun _ _ v19 _ _ _ _ _ _ _ _ _ _ _ _ _ _ _ _ _ _ _ _ _ _ _ _ _ _ _ _ _ _ _ _ _ _ _ _ _ => books.length - (intOf v19).toNat)
  case atStart => exact ⟨0, Nat.zero_le _, rfl, ⟨B2⟩, ⟨z2⟩, BB2⟩
  case round =>
    have setBB : ∀ (W : World) (i : Nat) (u : Value), But (fun _ => False) w1 W → But (fun _ => False) w1 (W.setCell ⟨bb, i, none⟩ u) := fun W i u h =>
      ⟨h.os, h.tape, h.output, by simpa [World.setCell] using h.size, fun k hk hx => (Below.heap_setCell _ _ _ _ (by show k ≠ bb; omega)).trans (h.block k hk hx)⟩
    obtain ⟨k, hk, rfl, HB, HZ, BBr⟩ := hrel
    clear B2 BB2 z2 u0
    have hSr := hS1.but HB.out (fun e => e)
    have hUr := hU1.but HB.out (fun e => e)
    have BKr := HB.out.obj BK (fun e => e)
    have hBr : Kd.C k52 wr A books.length books := Kd.C_below hB1 ⟨HB.out.os, HB.out.tape, HB.out.output, HB.out.size, fun k hk => HB.out.block k hk (fun e => e)⟩
    by_cases hlt : k < books.length
    · obtain ⟨ad, e, q0, q1, q2, q3⟩ := at_T52 hBr (k : Int) (by omega) (by omega)
      subst e
      rw [Int.toNat_natCast] at q0 q1 q2 q3
      have d1 : decide ((k : Int) < (books.length : Int)) = true := decide_eq_true (by omega)
      have d2 : decide (k < books.length) = true := decide_eq_true hlt
      have p0 : (0 : Int) ≤ (k : Int) := by omega
      have p1 : (k : Int) < (books.length : Int) := by omega
      go_upto_region 5 with (fail)
      refine with_world (P := fun x => Code.wp _ _ _ _ x) _ ?_
      intro w3 hw3
      have B3 : But (fun _ => False) w1 w3 := by rw [hw3]; exact HB.out.alloc _
      have BB3 : w3.heap[bb]? = some (.cells #[.int .i64 (nearTo books used win l k).1, .int .i64 (nearTo books used win l k).2] 80 (0, 0)) := by rw [hw3]; exact blk_alloc BBr _
      have BS3 : w3.heap[wr.heap.size]? = some (.cells #[.int .i64 (rd_T52 books (k : Int)).f0, .int .i64 (rd_T52 books (k : Int)).f1, .int .i64 (rd_T52 books (k : Int)).f2, .string (rd_T52 books (k : Int)).f3] 52 (0, 0)) := by rw [hw3]; exact blk_new wr _
      have BK3 := B3.obj BK (fun e => e)
      have z3 : wr.heap.size < w3.heap.size := by rw [hw3]; simp
      have HZ3 := Aside0.mk (show bb < w3.heap.size by have := HZ.out; omega)
      obtain ⟨sn, hsn⟩ : ∃ sn, wr.heap.size = sn := ⟨_, rfl⟩
      rw [hsn] at BS3 z3 ⊢
      clear hw3 q0 q1 q2 q3 hBr
      obtain ⟨s0, s1, s2, s3, s4⟩ := (hS1.but B3 (fun e => e)).cells
      have hU3 := hU1.but B3 (fun e => e)
      have hcu := hU3.cell hlt
      have e0 := (blk_cell BB3 0).trans rfl
      have e1 := (blk_cell BB3 1).trans rfl
      have b0 := (blk_cell BK3 0).trans rfl
      have b1 := (blk_cell BK3 1).trans rfl
      have f1 := (blk_cell BS3 1).trans rfl
      have f2 := (blk_cell BS3 2).trans rfl
      have fz := blk_frozen BB3 0
      have fz1 := blk_frozen BB3 1
      have HN := Aside0.mk (nearTo_succ books used win l k)
      have HB3 := Aside0.mk B3
      have HBB3 := Aside0.mk BB3
      clear B3 BB3 BS3 BK3 hU3 hUr hSr BKr BBr
      obtain ⟨bst, hbst⟩ : ∃ bst, nearTo books used win l k = bst := ⟨_, rfl⟩
      rw [hbst] at e0 e1 HN HBB3
      clear hbst
      obtain ⟨line, hline⟩ : ∃ line, rd_T52 books (k : Int) = line := ⟨_, rfl⟩
      have HL := Aside0.mk hline
      rw [hline] at f1 f2 ⊢
      clear hline
      obtain ⟨ubo, hubo⟩ : ∃ ubo, rdOf false used (k : Int) = ubo := ⟨_, rfl⟩
      have HUB := Aside0.mk hubo
      rw [hubo] at hcu
      clear hubo
      cases ubo
      · by_cases ham : line.f2 = l.f1
        · have hb : (line.f2 != l.f1) = false := bne_eq_false_iff_eq.mpr ham
          have ha : match_apart.f line.f1 l.f0 = some (apt line.f1 l.f0) := rfl
          by_cases hd : apt line.f1 l.f0 < bst.2
          · have hd1 : decide (apt line.f1 l.f0 < bst.2) = true := decide_eq_true hd
            go_wp2
            go_quiet (first | (go_at_call 42; refine (apart_calls line.f1 l.f0 _).mono ?_; rintro e w' ⟨rfl, ⟨nd, rfl⟩⟩; (try first | exact ⟨rfl, _, World.drewN_drewN _ _ _⟩ | exact ⟨rfl, _, Eq.trans (World.drewN_drewN _ _ _) (congrArg (World.drewN _) (Nat.add_assoc _ _ _))⟩)))
            go_wp2_with (first | (go_at_call 42; refine (apart_calls line.f1 l.f0 _).mono ?_; rintro e w' ⟨rfl, ⟨nd, rfl⟩⟩))
            go_roundw
            case rel =>
              refine ⟨k + 1, by omega, by go_num, ⟨?_⟩, ⟨?_⟩, ?_⟩
              · exact setBB _ _ _ (setBB _ _ _ (HB3.out.drewN _))
              · have := HZ3.out
                simpa [World.setCell] using this
              · rw [HN.out, show nearStep books used l bst k = ((k : Int), apt line.f1 l.f0) by unfold nearStep; rw [HL.out, hd1, HUB.out, ham]; simp]
                exact blk_put (blk_put (blk_drewN HBB3.out _) 0 _ rfl) 1 _ rfl
            case measure => simp [intOf]; omega
          · have hd1 : decide (apt line.f1 l.f0 < bst.2) = false := decide_eq_false hd
            go_wp2
            go_quiet (first | (go_at_call 42; refine (apart_calls line.f1 l.f0 _).mono ?_; rintro e w' ⟨rfl, ⟨nd, rfl⟩⟩; (try first | exact ⟨rfl, _, World.drewN_drewN _ _ _⟩ | exact ⟨rfl, _, Eq.trans (World.drewN_drewN _ _ _) (congrArg (World.drewN _) (Nat.add_assoc _ _ _))⟩)))
            go_wp2
            go_roundw
            case rel => exact ⟨k + 1, by omega, by go_num, ⟨by repeat (first | exact HB3.out | apply But.drewN)⟩, ⟨by simpa using HZ3.out⟩, by rw [HN.out, show nearStep books used l bst k = bst by unfold nearStep; rw [HL.out, hd1]; simp]; exact HBB3.out⟩
            case measure => simp [intOf]; omega
        · have hb : (line.f2 != l.f1) = true := bne_iff_ne.mpr ham
          go_wp2
          go_roundw
          case rel => exact ⟨k + 1, by omega, by go_num, ⟨by repeat (first | exact HB3.out | apply But.drewN)⟩, ⟨by simpa using HZ3.out⟩, by rw [HN.out]; simpa [nearStep, HL.out, HUB.out, ham] using HBB3.out⟩
          case measure => simp [intOf]; omega
      · go_wp2
        go_roundw
        case rel => exact ⟨k + 1, by omega, by go_num, ⟨by repeat (first | exact HB3.out | apply But.drewN)⟩, ⟨by simpa using HZ3.out⟩, by rw [HN.out]; simpa [nearStep, HUB.out] using HBB3.out⟩
        case measure => simp [intOf]; omega
    · obtain rfl : k = books.length := by omega
      have d1 : decide ((books.length : Int) < (books.length : Int)) = false := decide_eq_false (by omega)
      have e0 := (blk_cell BBr 0).trans rfl
      have hp : pickNear books used win l = if (nearTo books used win l books.length).1 < 0 then [] else [(nearTo books used win l books.length).1] := rfl
      have HPK := Aside0.mk hp
      clear hp
      have HP := Aside0.mk BBr
      clear BBr hSr hUr BKr hBr
      by_cases hneg : (nearTo books used win l books.length).1 < 0
      · have hd1 : decide ((nearTo books used win l books.length).1 < 0) = true := decide_eq_true hneg
        have ho := Aside0.mk (HPK.out.trans (if_pos hneg))
        go_wp2
        go_ret
        rw [ho.out]
        exact ⟨_, rfl, B1.trans HB.out, .inl ⟨rfl, rfl⟩⟩
      · have hd1 : decide ((nearTo books used win l books.length).1 < 0) = false := decide_eq_false hneg
        have ho := Aside0.mk (HPK.out.trans (if_neg hneg))
        go_wp2
        go_ret
        rw [ho.out]
        refine ⟨_, rfl, B1.trans HB.out, .inr ⟨bb, 2, _, 80, rfl, by simp, by decide, ?_, HP.out, rfl⟩⟩
        have := B1.size
        omega
end Go.Proofs.YtinfcbfdeacllaaDoor.P

/- The contract of (search).group: all unused lines with the same reference, if they add up to the amount. -/
namespace Go.Proofs.YtinfcbfdeacllaaDoor.P
open Go.RowKit Go.Proofs.YtinfcbfdeacllaaDoorW.PrintWords Go.Proofs.YtinfcbfdeacllaaDoorW.PrintLast Go.Proofs.YtinfcbfdeacllaaDoorW.PrintMore Go.Maps Go.ChangeShapes Go.WideShapes Go.WideMaps
set_option linter.unusedVariables false
set_option linter.unusedSimpArgs false
def unusedOf (used : List Bool) (zs : List Int) : List Int := zs.filter (fun z => !(rdOf false used z))
def gsum (books : List S52) (zs : List Int) : Int := zs.foldl (fun s z => wrap64 (s + (rd_T52 books z).f2)) 0
def pickGroup (books : List S52) (used : List Bool) (L : List Int) (l : S50) : List Int :=
  if l.f2.toList = [] then [] else if (unusedOf used L).length < 2 then [] else if gsum books (unusedOf used L) = l.f1 then unusedOf used L else []
theorem unusedOf_take (used : List Bool) (zs : List Int) (k : Nat) (h : k < zs.length) : unusedOf used (zs.take (k + 1)) = unusedOf used (zs.take k) ++ (if rdOf false used (zs.getD k 0) then [] else [zs.getD k 0]) := by
  unfold unusedOf
  rw [List.take_add_one, List.getElem?_eq_getElem h, List.filter_append]
  have : zs.getD k 0 = zs[k] := by simp [List.getD, h]
  rw [this]
  cases hc : rdOf false used zs[k] <;> simp [hc]
theorem unusedOf_le (used : List Bool) (zs : List Int) (k : Nat) : (unusedOf used (zs.take k)).length ≤ zs.length := by
  unfold unusedOf
  have h1 := List.length_filter_le (fun z => !(rdOf false used z)) (zs.take k)
  have h2 : (zs.take k).length ≤ zs.length := by simp; omega
  omega
theorem gsum_snoc (books : List S52) (zs : List Int) (z : Int) : gsum books (zs ++ [z]) = wrap64 (gsum books zs + (rd_T52 books z).f2) := by
  unfold gsum
  rw [List.foldl_append]; rfl
variable {sb ub fb rb : Nat} {A : Option Addr} {c0 : Nat} {books : List S52} {win : Int}
set_option maxHeartbeats 4000000 in
set_option maxRecDepth 100000 in
theorem group_calls (l : S50) (used : List Bool) (L : ByteArray → List Int) (base n : Nat) (w : World) (hn : n < maxLen) (hs : l.f2.size ≤ maxLen)
    (hS : Srch sb ub fb rb A c0 books win w) (hU : Usd ub books w used) (hB : Kd.C k52 w A books.length books) (hc0 : books.length ≤ c0) (hR : RefsAt w base rb n L) (hL : ∀ z ∈ L l.f2, 0 ≤ z ∧ z < books.length) (hLl : (L l.f2).length ≤ 1000000) :
    Calls Tryd.prog 28 #[.pointer (some ⟨sb, 0, none⟩), .agg #[.int .i64 l.f0, .int .i64 l.f1, .string l.f2, .string l.f3]] w fun e w' => ∃ v, e = .returned v ∧ But (fun _ => False) w w' ∧ Row w' w.heap.size v (pickGroup books used (L l.f2) l) := by
  have hu50 := Tryd.underlying50
  obtain ⟨i0, hi, hz0, hz1, hz2⟩ := info_parts info3
  obtain ⟨w1, hw1⟩ : ∃ w1, w1 = w.alloc (.cells #[.int .i64 l.f0, .int .i64 l.f1, .string l.f2, .string l.f3] 50) := ⟨_, rfl⟩
  have B1 : But (fun _ => False) w w1 := by rw [hw1]; exact (But.refl _ w).alloc _
  have BK : w1.heap[w.heap.size]? = some (.cells #[.int .i64 l.f0, .int .i64 l.f1, .string l.f2, .string l.f3] 50 (0, 0)) := by rw [hw1]; exact blk_new w _
  have hS1 := hS.but B1 (fun e => e)
  have hU1 := hU.but B1 (fun e => e)
  have hB1 : Kd.C k52 w1 A books.length books := Kd.C_below hB ⟨B1.os, B1.tape, B1.output, B1.size, fun k hk => B1.block k hk (fun e => e)⟩
  have hR1 := hR.but B1 (fun e => e) (fun j e => e.elim)
  obtain ⟨s0, s1, s2, s3, s4⟩ := hS1.cells
  obtain ⟨v, hlook, hoi⟩ := hR1.look hn hs
  have hRow := Row.of_own hoi.1
  obtain ⟨Av, cv, rfl⟩ := hRow.slice
  obtain ⟨zs, hzs⟩ : ∃ zs, L l.f2 = zs := ⟨_, rfl⟩
  rw [hzs] at hlook hoi hRow hL hLl
  have b0 := (blk_cell BK 0).trans rfl
  have b1 := (blk_cell BK 1).trans rfl
  have b2 := (blk_cell BK 2).trans rfl
  unfold pickGroup
  rw [hzs]
  by_cases hE : l.f2.toList = []
  · rw [if_pos hE]
    have hE1 : (l.f2.toList == ([] : List UInt8)) = true := by rw [hE]; rfl
    go_enter Tryd.func28, Tryd.ntmps28
    go_wp2
    go_ret
    exact ⟨_, rfl, hw1 ▸ B1, .inl ⟨rfl, rfl⟩⟩
  · rw [if_neg hE]
    have hE1 : (l.f2.toList == ([] : List UInt8)) = false := beq_eq_false_iff_ne.mpr hE
    obtain ⟨out, hout⟩ : ∃ out, (if (unusedOf used zs).length < 2 then [] else if gsum books (unusedOf used zs) = l.f1 then unusedOf used zs else []) = out := ⟨_, rfl⟩
    rw [hout]
    have HO := Aside0.mk hout
    clear hout
    have hl2 : ∀ n, (Instr.lookup 61 (.map (some rb)) (.string l.f2) false).run Tryd.prog (w1.drewN n) = .ok (.slice Av zs.length cv) (w1.drewN n) := fun n => hlook _ rfl
    go_enter Tryd.func28, Tryd.ntmps28
    go_wp2
    rw [← hw1]
    clear hw1
    go_quiet (fail)
    go_wp2
    go_loopw [5, 6, 8, 20, 21, 22, 23, 24, 25, 26, 27, 28, 29, 30, 31, 32, 33, 34, 35, 36, 37, 38, 39, 40, 41, 42, 43, 44, 45, 46] (fun v5 v6 _ v20 _ _ _ _ _ _ _ _ _ _ _ _ _ _ _ _ _ _ _ _ _ _ _ _ _ _ wr => ∃ k : Nat, k ≤ zs.length ∧ v20 = .int .i64 k ∧ v6 = .int .i64 (gsum books (unusedOf used (zs.take k))) ∧ Aside0 (But (fun _ => False) w1 wr) ∧ Aside0 (wr.ownsRow w1.heap.size 3 1 v5 (unusedOf used (zs.take k)).length ((unusedOf used (zs.take k)).map (Value.int .i64)))) (fun _ _ _ v20 _ _ _ _ _ _ _ _ _ _ _ _ _ _ _ _ _ _ _ _ _ _ _ _ _ _ _ => zs.length - (intOf v20).toNat)
    case atStart => exact ⟨0, Nat.zero_le _, rfl, rfl, ⟨(But.refl _ _).drewN _⟩, ⟨World.ownsRow_nil _ _ _ _⟩⟩
    case round =>
      obtain ⟨k, hk, rfl, rfl, HB, HOW⟩ := hrel
      have hSr := hS1.but HB.out (fun e => e)
      have hUr := hU1.but HB.out (fun e => e)
      have hBr : Kd.C k52 wr A books.length books := Kd.C_below hB1 ⟨HB.out.os, HB.out.tape, HB.out.output, HB.out.size, fun k hk => HB.out.block k hk (fun e => e)⟩
      have BKr := HB.out.obj BK (fun e => e)
      obtain ⟨s0', s1', s2', s3', s4'⟩ := hSr.cells
      have c1' := (blk_cell BKr 1).trans rfl
      by_cases hlt : k < zs.length
      · obtain ⟨g, rfl, hg, hzc, hc⟩ := (hRow.but HB.out (fun k e => e.elim)).cell hlt
        obtain ⟨z, hz'⟩ : ∃ z, zs.getD k 0 = z := ⟨_, rfl⟩
        have hzm : z ∈ zs := by rw [← hz']; simp [List.getD, hlt]
        obtain ⟨z0, z1⟩ := hL z hzm
        rw [hz'] at hc
        have d1 : decide ((k : Int) < (zs.length : Int)) = true := decide_eq_true (by omega)
        have d2 : decide (k < zs.length) = true := decide_eq_true hlt
        have p0 : (0 : Int) ≤ (k : Int) := by omega
        have p1 : (k : Int) < (zs.length : Int) := by omega
        have hcu := hUr.cell (j := z.toNat) (by omega)
        rw [show ((z.toNat : Nat) : Int) = z by omega] at hcu
        have HT := Aside0.mk (unusedOf_take used zs k hlt)
        rw [hz'] at HT
        have HLE := unusedOf_le used zs k
        cases hub : rdOf false used z
        · rw [hub] at hcu HT
          have HBR := Aside0.mk hBr
          have HSR := Aside0.mk hSr
          clear hBr hSr BKr
          go_wp2_with (first | (at_builtin; refine wpList_append_own_at _ rfl _ _ 42 rfl w1.heap.size 3 i0 (.int .i64 0) 1 8 Tryd.underlying42 hi hz0 hz1 hz2 rfl (by decide) _ _ _ rfl (HOW.out.alloc _) ⟨wr.heap.size, 0, none⟩ 1 1 [.int .i64 z] rfl rfl (cell_one_new _ _ _) (ints_oneCell .i64 [z]) (by unfold maxLen; omega) (by omega) (by have := HB.out.size; simp; omega) ?_; intro v' w2 hown' hgrow hnil hloc; have HB2 := Aside0.mk ((HB.out.alloc _).own hgrow (fun k e => (HOW.out.lt k e).1)); have HOW2 := Aside0.mk hown'; clear hown' hgrow hnil hloc; obtain ⟨r0, r1, r2, r3, r4⟩ := (hS1.but HB2.out (fun e => e)).cells; obtain ⟨ad, e, q0, q1, q2, q3⟩ := at_T52 (Kd.C_below hB1 ⟨HB2.out.os, HB2.out.tape, HB2.out.output, HB2.out.size, fun k hk => HB2.out.block k hk (fun e => e)⟩) z z0 z1; subst e))
          go_roundw
          case rel =>
            have e : unusedOf used (zs.take (k + 1)) = unusedOf used (zs.take k) ++ [z] := by rw [HT.out]; simp
            refine ⟨k + 1, by omega, by go_num, by rw [e, gsum_snoc], HB2, ?_⟩
            rw [e]
            refine ⟨?_⟩
            have := HOW2.out
            simpa using this
          case measure => simp [intOf]; omega
        · rw [hub] at hcu HT
          go_wp2
          go_roundw
          case rel =>
            have e : unusedOf used (zs.take (k + 1)) = unusedOf used (zs.take k) := by rw [HT.out]; simp
            exact ⟨k + 1, by omega, by go_num, by rw [e], HB, by rw [e]; exact HOW⟩
          case measure => simp [intOf]; omega
      · obtain rfl : k = zs.length := by omega
        have d1 : decide ((zs.length : Int) < (zs.length : Int)) = false := decide_eq_false (by omega)
        have HRW := Aside0.mk (Row.of_own HOW.out)
        rw [List.take_length] at HRW ⊢
        obtain ⟨Ag, cg, rfl⟩ := HRW.out.slice
        obtain ⟨gs, hgs⟩ : ∃ gs, unusedOf used zs = gs := ⟨_, rfl⟩
        rw [hgs] at HRW HO ⊢
        have BF := Aside0.mk (B1.trans HB.out)
        have SZ := B1.size
        clear hBr BKr
        by_cases hlen : gs.length < 2
        · have d2 : decide ((gs.length : Int) < 2) = true := decide_eq_true (by omega)
          have d3 : decide (gs.length < 2) = true := decide_eq_true hlen
          have ho : out = [] := by rw [← HO.out, if_pos hlen]
          have HOO := Aside0.mk ho
          clear ho
          go_wp2
          go_ret
          rw [HOO.out]
          exact ⟨_, rfl, BF.out, .inl ⟨rfl, rfl⟩⟩
        · have d2 : decide ((gs.length : Int) < 2) = false := decide_eq_false (by omega)
          have d3 : decide (gs.length < 2) = false := decide_eq_false hlen
          by_cases hsum : gsum books gs = l.f1
          · have d4 : (gsum books gs != l.f1) = false := bne_eq_false_iff_eq.mpr hsum
            have ho : out = gs := by rw [← HO.out, if_neg hlen, if_pos hsum]
            have HOO := Aside0.mk ho
            clear ho hsum
            go_wp2
            go_ret
            rw [HOO.out]
            exact ⟨_, rfl, BF.out, HRW.out.lower SZ⟩
          · have d4 : (gsum books gs != l.f1) = true := bne_iff_ne.mpr hsum
            have ho : out = [] := by rw [← HO.out, if_neg hlen, if_neg hsum]
            have HOO := Aside0.mk ho
            clear ho
            go_wp2
            go_ret
            rw [HOO.out]
            exact ⟨_, rfl, BF.out, .inl ⟨rfl, rfl⟩⟩
end Go.Proofs.YtinfcbfdeacllaaDoor.P

/- The contract of (search).index: the unused lines are collected by their references. -/
namespace Go.Proofs.YtinfcbfdeacllaaDoor.P
open Go.RowKit Go.Proofs.YtinfcbfdeacllaaDoorW.PrintWords Go.Proofs.YtinfcbfdeacllaaDoorW.PrintLast Go.Proofs.YtinfcbfdeacllaaDoorW.PrintMore Go.Maps Go.ChangeShapes Go.WideShapes Go.WideMaps
set_option linter.unusedVariables false
set_option linter.unusedSimpArgs false
theorem refsTo_succ (books : List S52) (used : List Bool) (k : Nat) (s : ByteArray) : refsTo books used (k + 1) s = refsTo books used k s ++ (if !(rdOf false used (k : Int)) && ((rd_T52 books (k : Int)).f3.toList == s.toList && s.toList != []) then [(k : Int)] else []) := by
  unfold refsTo
  rw [List.range_succ, List.filter_append, List.map_append]
  congr 1
  cases hc : (!(rdOf false used (k : Int)) && ((rd_T52 books (k : Int)).f3.toList == s.toList && s.toList != [])) <;> simp [hc]
theorem refsTo_len (books : List S52) (used : List Bool) (k : Nat) (s : ByteArray) : (refsTo books used k s).length ≤ k := by
  unfold refsTo
  rw [List.length_map]
  exact Nat.le_trans (List.length_filter_le _ _) (by simp)
theorem RefsAt.congr {w : World} {base b n m : Nat} {L L' : ByteArray → List Int} (h : RefsAt w base b n L) (hm : n ≤ m) (he : ∀ s, L' s = L s) : RefsAt w base b m L' := by
  obtain ⟨D, ⟨es, clock, h1, h2, h3, h4, h5, h6, h7⟩, hA⟩ := h
  exact ⟨D, ⟨es, clock, h1, h2, Nat.le_trans h3 hm, h4, h5, fun x hx zs ho => Nat.le_trans (h6 x hx zs ho) hm, h7⟩, fun s hs => by rw [he]; exact hA s hs⟩
theorem bytes_ext {a b : ByteArray} (h : a.toList = b.toList) : a = b := ByteArray.ext (Array.ext' (by rw [← ByteArray.toList_eq a, ← ByteArray.toList_eq b]; exact h))
/-- 'clear' of a map. -/
theorem wpList_clear {P : Program} (w : World) {ops : Array Oper} {rest : List Oper} {o : Oper} {a : Act} {Q : Exit → Act → World → Prop}
    (hg : o.guard = none) (m : Operand) (t k e : TypeId) (hop : o.op = Op.call { callee := Callee.builtin Builtin.clear, args := #[m], argTypes := #[t] })
    (ht : P.underlying t = some (.map k e)) (b : Nat) (es : Array MapEntry) (clock : Nat) (hb : w.heap[b]? = some (.map es clock)) (hm : a.eval m = .map (some b))
    (hK : ∀ w', w'.heap[b]? = some (.map #[] clock) → w.grownBy w' (some b) → wpList P ops Q rest (a.put o.dst (.tuple #[])) w') :
    wpList P ops Q (o :: rest) a w := by
  refine wpList_plain hg fun K' hK' => ?_
  have hrun : (Builtin.clear_ #[t] o.type #[.map (some b)]).run P w = .ok (.tuple #[]) (ChangeMaps.setBlock w b (.map #[] clock)) := by
    simp [Builtin.clear_, run_underlying ht, MapKept.run_getObj_map hb, MapKept.run_setObj_map _ hb, Result.andThen, ChangeMaps.setBlock]
  unfold Oper.wp
  simp [execOp, hop, resolve, invoke, builtin, hm, hrun, Result.andThen]
  exact hK' _ _ (hK _ (ChangeMaps.heap_setBlock_same hb _) ⟨rfl, rfl, rfl, by simp [ChangeMaps.setBlock], fun i _ hi => ChangeMaps.heap_setBlock_other hb _ (fun e => hi (by rw [e]))⟩)
theorem agr_put {D : DataW Unit} {books : List S52} {used : List Bool} {k : Nat} {line : S52} {zs : List Int} {v : Value} (hD : IsMap D) (hA : Agr D (refsTo books used k))
    (hsc : ∀ s, refsTo books used (k + 1) s = refsTo books used k s ++ (if !(rdOf false used (k : Int)) && ((rd_T52 books (k : Int)).f3.toList == s.toList && s.toList != []) then [(k : Int)] else []))
    (hl : rd_T52 books (k : Int) = line) (hu : rdOf false used (k : Int) = false) (hE : ¬ line.f3.toList = []) (hzs : zs = refsTo books used k line.f3) (hv : rowDatum (H := Unit) .i64 v (zs ++ [(k : Int)]) = .slice (lits .i64 (zs ++ [(k : Int)])) []) :
    Agr (D.put (.string line.f3.data.toList) (rowDatum .i64 v (zs ++ [(k : Int)]))) (refsTo books used (k + 1)) := by
  intro s hs
  rw [hsc s, hl, hu]
  by_cases e : line.f3.toList = s.toList
  · obtain rfl := bytes_ext e
    right
    rw [atKey_put_same hD (by trivial), hv, hzs]
    simp [hE]
  · rw [atKey_put_other (k' := Lit.string s.data.toList) (by
      intro h'
      simp only [Lit.string.injEq] at h'
      exact e (by rw [ByteArray.toList_eq, ByteArray.toList_eq, h']))]
    have : (line.f3.toList == s.toList) = false := beq_eq_false_iff_ne.mpr e
    rw [this]
    simpa using hA s hs
theorem groups_map {H : Type} {P : Program} {k : TypeId} {w : World} {base : Nat} {e : TypeId} {q : IntKind} {b n : Nat} {D : DataW H} (h : w.ownsGroups P k base e q b n D) : IsMap D := by
  obtain ⟨es, clock, _, _, _, rfl, _⟩ := h
  exact ⟨_, rfl⟩
theorem look_at {w : World} {base b n : Nat} {D : DataW Unit} (ho : w.ownsGroups Tryd.prog 9 base 3 .i64 b n D) {s : ByteArray} (hs : s.size ≤ maxLen) :
    ∃ v, ∀ W : World, W.heap[b]? = w.heap[b]? → (Instr.lookup 61 (.map (some b)) (.string s) false).run Tryd.prog W = .ok v W := by
  obtain ⟨es, clock, hb, F, _⟩ := ho
  obtain ⟨v', hv'⟩ := look_any (b := b) F hs
  exact ⟨v', fun W hW => hv' W (hW.trans hb)⟩
theorem refsAt_empty {w : World} {b base clock : Nat} (hb : w.heap[b]? = some (.map #[] clock)) (hbb : b < base) : RefsAt w base b 0 (fun _ => []) :=
  ⟨.map [], ⟨#[], clock, hb, ⟨by simp, MapKept.stamped_empty clock, by simp⟩, Nat.le_refl _, rfl, hbb, by simp, by simp⟩, fun _ _ => .inl ⟨rfl, rfl⟩⟩
variable {sb ub fb rb : Nat} {A : Option Addr} {c0 : Nat} {books : List S52} {win : Int}
set_option maxHeartbeats 8000000 in
set_option maxRecDepth 100000 in
theorem index_calls (used : List Bool) (w : World) (hS : Srch sb ub fb rb A c0 books win w) (hU : Usd ub books w used) (n0 : Nat) (hB : Kd.F k52 w (fun k => k < n0) A books.length books) (hn0 : n0 ≤ rb) (hc0 : books.length ≤ c0)
    (hM : ∃ es clock, w.heap[rb]? = some (.map es clock)) (hsz : ∀ x ∈ books, x.f3.size ≤ maxLen) (hn : books.length ≤ 1000000) (h1 : rb ≠ sb) (h2 : rb ≠ ub) :
    Calls Tryd.prog 24 #[.pointer (some ⟨sb, 0, none⟩)] w fun e w' => e = .returned (.tuple #[]) ∧ But (fun k => k = rb) w w' ∧ RefsAt w' w.heap.size rb books.length (refsTo books used books.length) := by
  have hu52 := Tryd.underlying52
  obtain ⟨i0, hi, hz0, hz1, hz2⟩ := info_parts info3
  obtain ⟨es, clock, hm⟩ := hM
  have hrl : rb < w.heap.size := (Array.getElem?_eq_some_iff.1 hm).1
  obtain ⟨s0, s1, s2, s3, s4⟩ := hS.cells
  have hBk : ∀ W, But (fun k => k = rb) w W → Kd.C k52 W A books.length books := fun W hW =>
    Kd.F_now (Kd.F_step hB (fun k hk hlt => hW.block k hlt (by have : k < n0 := hk; omega)))
  go_enter Tryd.func24, Tryd.ntmps24
  go_wp2_with (first | ((with_reducible refine gate_builtin (b := .clear) (xs := #[.tmp 7]) rfl ?_); refine wpList_clear _ rfl (.tmp 7) 61 9 42 rfl Tryd.underlying61 rb es clock hm rfl ?_; intro w0 hm0 hg0; have B0 := Aside0.mk (But.of_grown hg0 (X := fun k => k = rb) (fun k e => by cases e; rfl)); clear hg0 s0 s1 s2 s3 s4; obtain ⟨r0, r1, r2, r3, r4⟩ := (hS.but B0.out (fun e => h1 e.symm)).cells))
  have hR0 := refsAt_empty hm0 hrl
  clear hm0 hm
  go_loopw [2, 3, 13, 14, 15, 16, 17, 18, 19, 20, 21, 22, 23, 24, 25, 26, 27, 28, 29, 30, 31, 32, 33, 34, 35, 36, 37, 38, 39, 40, 41, 42, 43, 44, 45, 46, 47] (fun _ _ v13 _ _ _ _ _ _ _ _ _ _ _ _ _ _ _ _ _ _ _ _ _ _ _ _ _ _ _ _ _ _ _ _ _ _ wr => ∃ k : Nat, k ≤ books.length ∧ v13 = .int .i64 k ∧ Aside0 (But (fun k => k = rb) w wr) ∧ Aside0 (RefsAt wr w.heap.size rb k (refsTo books used k))) (fun _ _ v13 _ _ _ _ _ _ _ _ _ _ _ _ _ _ _ _ _ _ _ _ _ _ _ _ _ _ _ _ _ _ _ _ _ _ _ => books.length - (intOf v13).toNat)
  case atStart => exact ⟨0, Nat.zero_le _, rfl, B0, ⟨hR0⟩⟩
  case round =>
    clear r0 r1 r2 r3 r4 hR0 B0
    obtain ⟨k, hk, rfl, HB, HR⟩ := hrel
    by_cases hlt : k < books.length
    · obtain ⟨ad, e, q0, q1, q2, q3⟩ := at_T52 (hBk wr HB.out) (k : Int) (by omega) (by omega)
      subst e
      rw [Int.toNat_natCast] at q0 q1 q2 q3
      have d1 : decide ((k : Int) < (books.length : Int)) = true := decide_eq_true (by omega)
      have d2 : decide (k < books.length) = true := decide_eq_true hlt
      have p0 : (0 : Int) ≤ (k : Int) := by omega
      have p1 : (k : Int) < (books.length : Int) := by omega
      go_upto_region 4 with (fail)
      refine with_world (P := fun x => Code.wp _ _ _ _ x) _ ?_
      intro w3 hw3
      have B3 : But (fun k => k = rb) w w3 := by rw [hw3]; exact HB.out.alloc _
      have R3 : RefsAt w3 w.heap.size rb k (refsTo books used k) := by rw [hw3]; exact HR.out.but ((But.refl (fun _ => False) wr).alloc _) (fun e => e) (fun j e => e.elim)
      have BS3 : w3.heap[wr.heap.size]? = some (.cells #[.int .i64 (rd_T52 books (k : Int)).f0, .int .i64 (rd_T52 books (k : Int)).f1, .int .i64 (rd_T52 books (k : Int)).f2, .string (rd_T52 books (k : Int)).f3] 52 (0, 0)) := by rw [hw3]; exact blk_new wr _
      have zsn : wr.heap.size ≠ rb := by have := HB.out.size; omega
      obtain ⟨sn, hsn⟩ : ∃ sn, wr.heap.size = sn := ⟨_, rfl⟩
      rw [hsn] at BS3 zsn ⊢
      clear hw3 q0 q1 q2 q3
      have hsr : (rd_T52 books (k : Int)).f3.size ≤ maxLen := by
        have : rd_T52 books (k : Int) = books[k] := by simp [rd_T52, List.getD, hlt]
        rw [this]; exact hsz _ (List.getElem_mem hlt)
      obtain ⟨line, hline⟩ : ∃ line, rd_T52 books (k : Int) = line := ⟨_, rfl⟩
      have HL := Aside0.mk hline
      rw [hline] at BS3 hsr ⊢
      clear hline
      have hS3 := hS.but B3 (fun e => h1 e.symm)
      obtain ⟨s0, s1, s2, s3, s4⟩ := hS3.cells
      have hcu := (hU.but B3 (fun e => h2 e.symm)).cell hlt
      have f3 := (blk_cell BS3 3).trans rfl
      have HB3 := Aside0.mk B3
      have HR3 := Aside0.mk R3
      have HSC := Aside0.mk (refsTo_succ books used k)
      clear B3 R3
      obtain ⟨ubo, hubo⟩ : ∃ ubo, rdOf false used (k : Int) = ubo := ⟨_, rfl⟩
      have HUB := Aside0.mk hubo
      rw [hubo] at hcu
      clear hubo
      cases ubo
      · by_cases hE : line.f3.toList = []
        · have hE1 : (line.f3.toList != ([] : List UInt8)) = false := bne_eq_false_iff_eq.mpr hE
          go_wp2
          refine ⟨⟨k + 1, by omega, by simp, HB3, ⟨HR3.out.congr (Nat.le_succ _) (fun s => ?_)⟩⟩, by simp [intOf]; omega⟩
          rw [HSC.out, HL.out, hE, HUB.out]
          cases hs : s.toList <;> simp
        · have hE1 : (line.f3.toList != ([] : List UInt8)) = true := bne_iff_ne.mpr hE
          have hE2 : (line.f3.toList == ([] : List UInt8)) = false := beq_eq_false_iff_ne.mpr hE
          obtain ⟨D, hown, hA⟩ := HR3.out
          obtain ⟨v, zs, hrun, hat, hoi, hzl, hback⟩ := hown.at strKeyed Tryd.underlying61 (zero42 w3) (by unfold maxLen; omega) (keyS hsr)
          obtain ⟨v', hlk⟩ := look_at (b := rb) hown hsr
          have ev := hlk w3 rfl
          rw [hrun] at ev
          injection ev with ev _
          subst ev
          have hzs := Aside0.mk (show zs = refsTo books used k line.f3 from rowDatum_eq hoi rfl (by rw [← hat]; exact hA _ hsr))
          have HAT := Aside0.mk hat
          clear hat
          have g30 := (World.grownBy_alloc w3 (.cells #[.int .i64 (k : Int)] 3) (v.ownBlock))
          have g3 : w3.grownBy (w3.alloc (.cells #[.int .i64 (k : Int)] 3)).drew v.ownBlock := ⟨g30.os, g30.tape, g30.output, g30.size, g30.block⟩
          clear g30
          have sb_lt : sb < w3.heap.size := (Array.getElem?_eq_some_iff.1 hS3).1
          have sn_lt : sn < w3.heap.size := (Array.getElem?_eq_some_iff.1 BS3).1
          have rb_lt : rb < w3.heap.size := by have := HB3.out.size; omega
          have base_le : w.heap.size ≤ w3.heap.size := HB3.out.size
          have sb_old : sb < w.heap.size := (Array.getElem?_eq_some_iff.1 hS).1
          have av : v.ownBlock ≠ some sb := fun e => by have := (hoi.1.lt sb e).1; omega
          have an : v.ownBlock ≠ some sn := fun e => by
            obtain ⟨cells, hc⟩ := own_typed hoi.1 sn e
            rw [BS3] at hc; cases hc
          have l1 : (Instr.lookup 61 (.map (some rb)) (.string line.f3) false).run Tryd.prog w3.drew = .ok v w3.drew := hlk _ rfl
          have l2 : (Instr.lookup 61 (.map (some rb)) (.string line.f3) false).run Tryd.prog (w3.alloc (.cells #[.int .i64 (k : Int)] 3)).drew = .ok v (w3.alloc (.cells #[.int .i64 (k : Int)] 3)).drew := hlk _ (Below.heap_alloc _ _ _ rb_lt)
          have h63 : zs.length + 1 ≤ maxLen := by unfold maxLen; omega
          have hby : (zs.length + 1) * 8 ≤ 140737488355328 := by omega
          go_wp2
          go_region_held3 (fun w' => w'.cell? ⟨sb, 4, none⟩ = some (.map (some rb)) ∧ w'.cell? ⟨sn, 3, none⟩ = some (.string line.f3))
            (first
              | go_keep
              | (go_split_ands
                 refine ⟨?_, ?_⟩
                 · (rw [hgrow.cell_far _ (by simp; omega) (Ne.symm av)]; assumption)
                 · (rw [hgrow.cell_far _ (by simp; omega) (Ne.symm an)]; assumption))
              | (go_split_ands
                 refine ⟨?_, ?_⟩
                 · (rw [hg5.cell_far _ (by exact sb4) (by simpa using Ne.symm h1)]; assumption)
                 · (rw [hg5.cell_far _ (by exact sn4) (by simpa using zsn)]; assumption)))
            ((refine step_append_lies _ (by rfl) _ _ _ (by rfl) w.heap.size 3 i0 _ 1 8 Tryd.underlying42 hi hz0 hz1 hz2 rfl (by omega) v zs.length (zs.map (Value.int .i64)) (by rfl) ((hoi.1.alloc _).drew) ⟨w3.heap.size, 0, none⟩ 1 1 [.int .i64 (k : Int)] (by rfl) (by rfl) (World.news_of_block (cs := #[.int .i64 (k : Int)]) (t := 3) (fr := (0, 0)) (heap_alloc_new w3 _)) (by simp [Value.oneCell']) (by omega) h63 hby (by simp; omega) (w3.heap.size + 1) (by simp) ?_; intro gg cap w4 hown4 hgrow hloc hlt4; have sb4 := Nat.lt_of_lt_of_le sb_lt (g3.trans hgrow).size; have sn4 := Nat.lt_of_lt_of_le sn_lt (g3.trans hgrow).size; obtain ⟨w5, hrun5, hR5, hg5⟩ := hback w4 (.slice (some ⟨gg, 0, none⟩) (zs.length + 1) cap) (zs ++ [(k : Int)]) (g3.trans hgrow) (hoi.appended hown4 (WalkArith.wf_i64 (by omega))) (by simp; omega) (hloc.imp (fun e => e.symm) (fun e => ⟨gg, rfl, by omega⟩))))
          all_goals
            go_wp2
            refine ⟨⟨k + 1, by omega, by simp, ?_, ?_⟩, by simp [intOf]; omega⟩
            · exact ⟨(HB3.out.own (g3.trans hgrow) (fun j e => (hoi.1.lt j e).1)).trans (But.of_grown hg5 (fun j e => by cases e; rfl))⟩
            · refine ⟨⟨_, hR5, ?_⟩⟩
              exact agr_put (groups_map hown) hA HSC.out HL.out HUB.out hE hzs.out rfl
      · go_wp2
        refine ⟨⟨k + 1, by omega, by simp, HB3, ⟨HR3.out.congr (Nat.le_succ _) (fun s => ?_)⟩⟩, by simp [intOf]; omega⟩
        rw [HSC.out, HUB.out]
        simp
    · obtain rfl : k = books.length := by omega
      have d1 : decide ((books.length : Int) < (books.length : Int)) = false := decide_eq_false (by omega)
      go_wp2
      go_end0
      exact ⟨rfl, HB.out, HR.out⟩
end Go.Proofs.YtinfcbfdeacllaaDoor.P

/- The contract of match.Run. -/
namespace Go.Proofs.YtinfcbfdeacllaaDoor.P
open Go.RowKit Go.Proofs.YtinfcbfdeacllaaDoorW.PrintWords Go.Proofs.YtinfcbfdeacllaaDoorW.PrintLast Go.Proofs.YtinfcbfdeacllaaDoorW.PrintMore Go.Maps Go.ChangeShapes Go.WideShapes Go.WideMaps
set_option linter.unusedVariables false
set_option linter.unusedSimpArgs false

/-! ### What Run computes -/
def upd (f : Int → List Int) (i : Int) (p : List Int) : Int → List Int := fun j => if j = i then p else f j
def stepOf (pick : List Bool → S50 → List Int) (lines : List S50) (st : List Bool × (Int → List Int)) (i : Nat) : List Bool × (Int → List Int) :=
  if st.2 (i : Int) = [] then (mark st.1 (pick st.1 (rd_T50 lines (i : Int))), upd st.2 (i : Int) (pick st.1 (rd_T50 lines (i : Int)))) else st
def pass (pick : List Bool → S50 → List Int) (lines : List S50) (st : List Bool × (Int → List Int)) : Nat → List Bool × (Int → List Int)
  | 0 => st
  | i + 1 => stepOf pick lines (pass pick lines st i) i
def noneUsed (books : List S52) : List Bool := List.replicate books.length false
def pickA (books : List S52) (u : List Bool) (l : S50) : List Int := pickSame books u (refsTo books (noneUsed books) books.length l.f2) l
def passA (lines : List S50) (books : List S52) : Nat → List Bool × (Int → List Int) := pass (pickA books) lines (noneUsed books, fun _ => [])
def pickB (books : List S52) (win : Int) (u : List Bool) (l : S50) : List Int := pickNear books u win l
def passB (lines : List S50) (books : List S52) (win : Int) : Nat → List Bool × (Int → List Int) := pass (pickB books win) lines (passA lines books lines.length)
def pickC (books : List S52) (u0 : List Bool) (u : List Bool) (l : S50) : List Int := pickGroup books u (refsTo books u0 books.length l.f2) l
def passC (lines : List S50) (books : List S52) (win : Int) : Nat → List Bool × (Int → List Int) := pass (pickC books (passB lines books win lines.length).1) lines (passB lines books win lines.length)
def outTo (f : Int → List Int) : Nat → List S54
  | 0 => []
  | i + 1 => outTo f i ++ (if f (i : Int) = [] then [] else [⟨(i : Int), f (i : Int)⟩])
def runOf (lines : List S50) (books : List S52) (win : Int) : List S54 := outTo (passC lines books win lines.length).2 lines.length
def wrongOf (on amount : Int) : Int := if 0 ≤ on ∧ on ≤ 109572 then (if amount > 1000000000000 ∨ amount < -1000000000000 then 4 else 0) else 11
def firstOf (l : List Int) : Int := (l.find? (fun e => e != 0)).getD 0
def checkOf (lines : List S50) (books : List S52) (win : Int) : Int :=
  if win < 0 ∨ win > 366 then 3 else if lines.length > 200 ∨ books.length > 4000 then 9 else firstOf (lines.map (fun l => wrongOf l.f0 l.f1) ++ books.map (fun b => wrongOf b.f1 b.f2))
def match_Run.f (lines : List S50) (books : List S52) (win : Int) : Option (List S54 × Int) :=
  if (∀ x ∈ lines, x.f2.size ≤ maxLen) ∧ (∀ x ∈ books, x.f3.size ≤ maxLen) ∧ books.length ≤ 1000000 ∧ lines.length ≤ 1000000 then (if checkOf lines books win = 0 then some (runOf lines books win, 0) else some ([], checkOf lines books win)) else none

theorem outTo_len (f : Int → List Int) : ∀ k, (outTo f k).length ≤ k
  | 0 => Nat.le_refl _
  | k + 1 => by
    have := outTo_len f k
    unfold outTo
    rw [List.length_append]
    split <;> simp <;> omega
theorem refsTo_mem {books : List S52} {used : List Bool} {k : Nat} {s : ByteArray} {z : Int} (h : z ∈ refsTo books used k s) : 0 ≤ z ∧ z < k := by
  unfold refsTo at h
  obtain ⟨j, hj, rfl⟩ := List.mem_map.1 h
  have := List.mem_range.1 (List.mem_filter.1 hj).1
  omega
theorem pickSame_mem {books : List S52} {used : List Bool} {L : List Int} {l : S50} {z : Int} (h : z ∈ pickSame books used L l) : z ∈ L := by
  unfold pickSame at h
  split at h
  · simp at h
  · cases hf : L.find? (isSame books used l) with
    | none => rw [hf] at h; simp [pickOf] at h
    | some y =>
      rw [hf] at h
      simp [pickOf] at h
      subst h
      exact List.mem_of_find?_eq_some hf
theorem nearTo_range (books : List S52) (used : List Bool) (win : Int) (l : S50) : ∀ k, (nearTo books used win l k).1 < 0 ∨ (0 ≤ (nearTo books used win l k).1 ∧ (nearTo books used win l k).1 < k)
  | 0 => .inl (by show (-1 : Int) < 0; decide)
  | k + 1 => by
    rw [nearTo_succ]
    unfold nearStep
    split
    · right; simp; omega
    · rcases nearTo_range books used win l k with h | h
      · exact .inl h
      · right; omega
theorem pickNear_mem {books : List S52} {used : List Bool} {win : Int} {l : S50} {z : Int} (h : z ∈ pickNear books used win l) : 0 ≤ z ∧ z < books.length := by
  unfold pickNear at h
  split at h
  · simp at h
  · rename_i hn
    simp at h
    subst h
    rcases nearTo_range books used win l books.length with h | h
    · exact absurd h hn
    · exact h
theorem pickGroup_mem {books : List S52} {used : List Bool} {L : List Int} {l : S50} {z : Int} (h : z ∈ pickGroup books used L l) : z ∈ L := by
  unfold pickGroup at h
  split at h
  · simp at h
  · split at h
    · simp at h
    · split at h
      · exact (List.mem_filter.1 h).1
      · simp at h
theorem pass_rest (pick : List Bool → S50 → List Int) (lines : List S50) (st : List Bool × (Int → List Int)) (h : ∀ j, st.2 j = []) : ∀ (k : Nat) (j : Int), (k : Int) ≤ j → (pass pick lines st k).2 j = []
  | 0, j, _ => h j
  | k + 1, j, hj => by
    have ih := pass_rest pick lines st h k j (by omega)
    show (stepOf pick lines (pass pick lines st k) k).2 j = []
    unfold stepOf
    split
    · show upd _ _ _ j = []
      unfold upd
      rw [if_neg (by omega)]
      exact ih
    · exact ih

/-! ### The state -/
def St (sb ub fb rb : Nat) (A : Option Addr) (c0 : Nat) (books : List S52) (win : Int) (wr : World) (m : Nat) (st : List Bool × (Int → List Int)) : Prop :=
  Srch sb ub fb rb A c0 books win wr ∧ Usd ub books wr st.1 ∧ ∃ F, MapI wr fb m F ∧ ∀ i, Row wr (sb + 1) (F i) (st.2 i)
variable {sb ub fb rb : Nat} {A : Option Addr} {c0 : Nat} {books : List S52} {win : Int}
theorem St.but0 {w w' : World} {m : Nat} {st : List Bool × (Int → List Int)} (h : St sb ub fb rb A c0 books win w m st) (hb : But (fun _ => False) w w') : St sb ub fb rb A c0 books win w' m st := by
  obtain ⟨h1, h2, F, h3, h4⟩ := h
  exact ⟨h1.but hb (fun e => e), h2.but hb (fun e => e), F, h3.but hb (fun e => e), fun i => (h4 i).but hb (fun k e => e.elim)⟩
theorem St.butR {w w' : World} {m : Nat} {st : List Bool × (Int → List Int)} (h : St sb ub fb rb A c0 books win w m st) (hb : But (fun k => k = rb) w w') (ho : ub < fb ∧ fb < rb ∧ rb < sb) : St sb ub fb rb A c0 books win w' m st := by
  obtain ⟨h1, h2, F, h3, h4⟩ := h
  exact ⟨h1.but hb (fun e => by omega), h2.but hb (fun e => by omega), F, h3.but hb (fun e => by omega), fun i => (h4 i).but hb (fun k e => by omega)⟩
theorem St.mono {w : World} {m m' : Nat} {st : List Bool × (Int → List Int)} (h : St sb ub fb rb A c0 books win w m st) (hm : m ≤ m') : St sb ub fb rb A c0 books win w m' st := by
  obtain ⟨h1, h2, F, h3, h4⟩ := h
  exact ⟨h1, h2, F, h3.mono hm, h4⟩
theorem take_st {w : World} {m : Nat} {st : List Bool × (Int → List Int)} (h : St sb ub fb rb A c0 books win w m st) (ho : ub < fb ∧ fb < rb ∧ rb < sb) (hm : m < maxLen) (i : Int) (hi : (Lit.int .i64 i).wf = true) (v : Value) (p : List Int) (base : Nat) (hR : Row w base v p) (hb : sb + 1 ≤ base) (hz : ∀ z ∈ p, 0 ≤ z ∧ z < books.length) :
    Calls Tryd.prog 25 #[.pointer (some ⟨sb, 0, none⟩), .int .i64 i, v] w fun e w' => e = .returned (.tuple #[]) ∧ But (fun k => k = fb ∨ k = ub) w w' ∧ St sb ub fb rb A c0 books win w' (m + 1) (mark st.1 p, upd st.2 i p) := by
  obtain ⟨h1, h2, F, h3, h4⟩ := h
  refine (take_calls i hi v p st.1 F m base w hm h1 h2 h3 hR hz (by omega) (by omega) (by omega) (by omega) (by omega)).mono ?_
  rintro e w' ⟨rfl, hB, hU, hF⟩
  have hx : ∀ k, (k = fb ∨ k = ub) → k < sb + 1 := fun k e => by omega
  refine ⟨rfl, hB, h1.but hB (fun e => by omega), hU, _, hF, fun j => ?_⟩
  show Row w' (sb + 1) (if j = i then v else F j) (if j = i then p else st.2 j)
  by_cases e : j = i
  · rw [if_pos e, if_pos e]; exact (hR.lower hb).but hB hx
  · rw [if_neg e, if_neg e]; exact (h4 j).but hB hx
theorem madeBools (n : Nat) : (madeCells (Value.bool false).cells (n * 1)).toList = (List.replicate n false).map Value.bool := by
  refine List.ext_getElem (by simp [size_madeCells]) (fun i h1 h2 => ?_)
  simp [madeCells, Value.cells, Nat.mod_one]

set_option maxHeartbeats 16000000 in
set_option maxRecDepth 100000 in
theorem run_core (A0 : Option Addr) (c0 : Nat) (l0 : List S50) (A1 : Option Addr) (c1 : Nat) (l1 : List S52) (a2 : Int) (w : World) (hr0 : Kd.C k50 w A0 l0.length l0) (hc0 : l0.length ≤ c0) (hr1 : Kd.C k52 w A1 l1.length l1) (hc1 : l1.length ≤ c1)
    (hz0 : ∀ x ∈ l0, x.f2.size ≤ maxLen) (hz1 : ∀ x ∈ l1, x.f3.size ≤ maxLen) (hn1 : l1.length ≤ 1000000) (hn0 : l0.length ≤ 1000000) (kk : Nat) (hck : match_check.f kk l0 l1 a2 = some 0) (hT : Tab w) :
    Calls Tryd.prog 13 #[.slice A0 l0.length c0, .slice A1 l1.length c1, .int .i64 a2] w fun e w' => ∃ v0_ : Value, e = .returned (.tuple #[v0_, .int .i64 0]) ∧ Kd.N k54 54 w' w.heap.size (fun k_ => (w.heap.size ≤ k_)) v0_ (runOf l0 l1 a2) ∧ Below w.heap.size w w' := by
  have hmm := @run_makeMap Tryd.prog
  have hu50 := Tryd.underlying50
  have hu52 := Tryd.underlying52
  have hu63 := Tryd.underlying63
  obtain ⟨i4, hi4, hz40, hz41, hz42⟩ := info_parts info4
  have hF1 := Kd.F_mono (ok' := fun k => k < w.heap.size) (Kd.C_F k52_heap hr1) (fun k hk => hk)
  have HR0 := Aside0.mk hr0
  have HR1 := Aside0.mk hr1
  clear hr0 hr1
  have HCK := Aside0.mk hck
  have HTT := Aside0.mk hT
  clear hT
  have HF1 := Aside0.mk hF1
  clear hF1
  have hb1 : (l1.length : Int) ≤ 1000000 := by omega
  go_enter Tryd.func13, Tryd.ntmps13
  go_upto_region 4 with (first | (go_at_call 23; refine (match_check.calls kk A0 c0 l0 A1 c1 l1 a2 0 _ HR0.out hc0 HR1.out hc1 HCK.out HTT.out).mono ?_; rintro e w1 ⟨rfl, HB1⟩))
  have hs1 : w1.heap.size = w1.heap.size := rfl
  go_upto_region 5 with (first | (at_make; refine wpList_make_full _ rfl _ _ 59 rfl w1.heap.size 4 i4 (.bool false) 1 Tryd.underlying59 hi4 hz40 hz41 .i64 .i64 (l1.length : Int) (l1.length : Int) l1.length rfl rfl rfl rfl (by rw [hz42]; omega) (by unfold maxLen; omega) (Nat.le_refl _) ?_; intro w2 hown2 hg2))
  refine with_world (P := fun x => Code.wp _ _ _ _ x) _ ?_
  intro w5 hw5
  have s12 : w1.heap.size < w2.heap.size := (hown2.lt _ rfl).2
  have U2 : w2.heap[w1.heap.size]? = some (.cells ((noneUsed l1).map Value.bool).toArray 4 (0, 0)) := by
    rcases hown2.2 with ⟨h, _⟩ | ⟨g, cap, cur, h, _, hh, _, _, hcs, ht⟩
    · cases h
    · injection h with h1 h2 h3
      obtain rfl : g = w1.heap.size := by simpa using h1.symm
      rw [hh]
      rw [List.take_of_length_le (by simp [hcs, ← h3]), madeBools] at ht
      rw [show noneUsed l1 = List.replicate l1.length false from rfl, ← ht]
  have U5 : w5.heap[w1.heap.size]? = some (.cells ((noneUsed l1).map Value.bool).toArray 4 (0, 0)) := by rw [hw5]; exact blk_alloc (blk_alloc (blk_alloc U2 _) _) _
  have F5 : w5.heap[w2.heap.size]? = some (.map #[] 0) := by rw [hw5]; exact blk_alloc (blk_alloc (blk_new w2 _) _) _
  have R5 : w5.heap[w2.heap.size + 1]? = some (.map #[] 0) := by
    rw [hw5]; exact blk_alloc (by have := blk_new (w2.alloc (.map #[] 0)) (.map #[] 0); simpa using this) _
  have S5 : Srch (w2.heap.size + 1 + 1) w1.heap.size w2.heap.size (w2.heap.size + 1) A1 c1 l1 a2 w5 := by
    rw [hw5]
    have := blk_new ((w2.alloc (.map #[] 0)).alloc (.map #[] 0)) (.cells #[Value.slice A1 l1.length c1, Value.slice (some ⟨w1.heap.size, 0, none⟩) l1.length l1.length, Value.int IntKind.i64 a2, Value.map (some w2.heap.size), Value.map (some (w2.heap.size + 1))] 63)
    rw [World.size_alloc, World.size_alloc] at this
    exact this
  have B5 : Below w.heap.size w w5 := by
    rw [hw5]
    exact (((HB1.grown hg2 HB1.size (fun k e => by cases e)).alloc (by have := HB1.size; omega) _).alloc (by have := HB1.size; simp; omega) _).alloc (by have := HB1.size; simp; omega) _
  have T5 : St (w2.heap.size + 1 + 1) w1.heap.size w2.heap.size (w2.heap.size + 1) A1 c1 l1 a2 w5 0 (noneUsed l1, fun _ => []) :=
    ⟨S5, ⟨by simp [noneUsed], U5⟩, _, ⟨.map [], ⟨#[], 0, F5, ⟨by simp, MapKept.stamped_empty 0, by simp⟩, Nat.le_refl _, rfl⟩, fun _ _ => rfl⟩, fun _ => .inl ⟨rfl, rfl⟩⟩
  have z1 := HB1.size
  clear hw5 hown2 hg2 U2 F5 S5 U5 HB1 hmm hs1
  obtain ⟨ub, hub⟩ : ∃ s, w1.heap.size = s := ⟨_, rfl⟩
  obtain ⟨fb, hfb⟩ : ∃ s, w2.heap.size = s := ⟨_, rfl⟩
  rw [hub, hfb] at T5
  rw [hfb] at R5
  rw [hub] at z1
  rw [hub, hfb] at s12 ⊢
  obtain ⟨rb, hrb⟩ : ∃ s, fb + 1 = s := ⟨_, rfl⟩
  rw [hrb] at R5 T5 ⊢
  obtain ⟨sb, hsb⟩ : ∃ s, rb + 1 = s := ⟨_, rfl⟩
  rw [hsb] at T5 ⊢
  have ho : ub < fb ∧ fb < rb ∧ rb < sb := by omega
  have n0ub : w.heap.size ≤ ub := z1
  clear hub hfb hrb hsb s12 z1
  have HT5 := Aside0.mk T5
  have HB5 := Aside0.mk B5
  have HFF := Aside0.mk (show ∀ W, Below w.heap.size w W → Kd.F k52 W (fun k => k < w.heap.size) A1 l1.length l1 from fun W hW => Kd.F_step HF1.out (fun k hk hlt => hW.block k hlt))
  have HC52 := Aside0.mk (show ∀ W, Below w.heap.size w W → Kd.C k52 W A1 l1.length l1 from fun W hW => Kd.C_below HR1.out hW)
  have HC50 := Aside0.mk (show ∀ W, Below w.heap.size w W → Kd.C k50 W A0 l0.length l0 from fun W hW => Kd.C_below HR0.out hW)
  clear T5 B5
  go_wp2_with (first | (go_at_call 24; refine (index_calls (noneUsed l1) w5 HT5.out.1 HT5.out.2.1 w.heap.size (HFF.out _ HB5.out) (by omega) hc1 ⟨#[], 0, R5⟩ hz1 hn1 (by omega) (by omega)).mono ?_; rintro e w6 ⟨rfl, hb6, hr6⟩))
  have HT6 := Aside0.mk (HT5.out.butR hb6 ho)
  have HB6 := Aside0.mk (hb6.below HB5.out HB5.out.size (fun k e => by omega))
  obtain ⟨bR, hbR⟩ : ∃ s, w5.heap.size = s := ⟨_, rfl⟩
  rw [hbR] at hr6
  have bRsb : sb < bR := by rw [← hbR]; exact (Array.getElem?_eq_some_iff.1 HT5.out.1).1
  have HR6 := Aside0.mk hr6
  clear hb6 hr6 HT5 HB5 hbR R5
  go_loopw [10, 11, 38, 39, 40, 41, 42, 43, 44, 45, 46, 47, 48, 49] (fun _ _ v38 _ _ _ _ _ _ _ _ _ _ _ wr => ∃ k : Nat, k ≤ l0.length ∧ v38 = .int .i64 k ∧ Aside0 (Below w.heap.size w wr) ∧ Aside0 (St sb ub fb rb A1 c1 l1 a2 wr k (passA l0 l1 k)) ∧ Aside0 (RefsAt wr bR rb l1.length (refsTo l1 (noneUsed l1) l1.length))) (fun _ _ v38 _ _ _ _ _ _ _ _ _ _ _ _ => l0.length - (intOf v38).toNat)
  case atStart => exact ⟨0, Nat.zero_le _, rfl, HB6, HT6, HR6⟩
  case round =>
    clear HB6 HT6 HR6
    obtain ⟨k, hk, rfl, HB, HT, HR⟩ := hrel
    by_cases hlt : k < l0.length
    · obtain ⟨ad, e, q0, q1, q2, q3⟩ := at_T50 (HC50.out wr HB.out) (k : Int) (by omega) (by omega)
      subst e
      rw [Int.toNat_natCast] at q0 q1 q2 q3
      have d1 : decide ((k : Int) < (l0.length : Int)) = true := decide_eq_true (by omega)
      have d2 : decide (k < l0.length) = true := decide_eq_true hlt
      have p0 : (0 : Int) ≤ (k : Int) := by omega
      have p1 : (k : Int) < (l0.length : Int) := by omega
      go_upto_region 9 with (fail)
      refine with_world (P := fun x => Code.wp _ _ _ _ x) _ ?_
      intro w7 hw7
      have B7 := Aside0.mk (show But (fun _ => False) wr w7 by rw [hw7]; exact (But.refl _ wr).alloc _)
      have BK7 : w7.heap[wr.heap.size]? = some (.cells #[.int .i64 (rd_T50 l0 (k : Int)).f0, .int .i64 (rd_T50 l0 (k : Int)).f1, .string (rd_T50 l0 (k : Int)).f2, .string (rd_T50 l0 (k : Int)).f3] 50 (0, 0)) := by rw [hw7]; exact blk_new wr _
      clear hw7 q0 q1 q2 q3
      have HB7 := Aside0.mk (B7.out.below HB.out HB.out.size (fun k e => e.elim))
      have HT7 := Aside0.mk (HT.out.but0 B7.out)
      have HR7 := Aside0.mk (HR.out.but B7.out (fun e => e) (fun j e => e.elim))
      have hls : (rd_T50 l0 (k : Int)).f2.size ≤ maxLen := by
        have : rd_T50 l0 (k : Int) = l0[k] := by simp [rd_T50, List.getD, hlt]
        rw [this]; exact hz0 _ (List.getElem_mem hlt)
      obtain ⟨line, hline⟩ : ∃ line, rd_T50 l0 (k : Int) = line := ⟨_, rfl⟩
      have HL := Aside0.mk hline
      rw [hline] at BK7 hls
      clear hline
      obtain ⟨sn, hsn⟩ : ∃ sn, wr.heap.size = sn := ⟨_, rfl⟩
      rw [hsn] at BK7 ⊢
      clear hsn
      have b0 := (blk_cell BK7 0).trans rfl
      have b1 := (blk_cell BK7 1).trans rfl
      have b2 := (blk_cell BK7 2).trans rfl
      have b3 := (blk_cell BK7 3).trans rfl
      have hsl : sb < w7.heap.size := (Array.getElem?_eq_some_iff.1 HT7.out.1).1
      have HST := Aside0.mk (show passA l0 l1 (k + 1) = (mark (passA l0 l1 k).1 (pickA l1 (passA l0 l1 k).1 line), upd (passA l0 l1 k).2 (k : Int) (pickA l1 (passA l0 l1 k).1 line)) by
        have h0 : (passA l0 l1 k).2 (k : Int) = [] := pass_rest _ _ _ (fun j => rfl) k (k : Int) (Int.le_refl _)
        show stepOf _ _ (passA l0 l1 k) k = _
        unfold stepOf
        rw [if_pos h0, HL.out])
      go_wp2_with (first | (go_at_call 26; refine (same_calls line (passA l0 l1 k).1 (refsTo l1 (noneUsed l1) l1.length) bR l1.length w7 (by unfold maxLen; omega) hls HT7.out.1 HT7.out.2.1 (HC52.out _ HB7.out) hc1 HR7.out (fun z hz => refsTo_mem hz)).mono ?_; rintro e w8 ⟨v, rfl, hb8, hrow8⟩; have HB8 := Aside0.mk hb8; have HT8 := Aside0.mk (HT7.out.but0 hb8); have HW8 := Aside0.mk hrow8; clear hb8 hrow8) | (go_at_call 25; refine (take_st HT8.out ho (by unfold maxLen; omega) (k : Int) (WalkArith.wf_i64 (by omega)) v _ w7.heap.size HW8.out (by omega) (fun z hz => refsTo_mem (pickSame_mem hz))).mono ?_; rintro e w9 ⟨rfl, hb9, hst9⟩; have HB9 := Aside0.mk hb9; have HT9 := Aside0.mk hst9; clear hb9 hst9))
      have hB8 := HB8.out.below HB7.out HB7.out.size (fun j e => e.elim)
      refine ⟨⟨k + 1, by omega, by simp, ⟨HB9.out.below hB8 hB8.size (fun j e => by omega)⟩, ⟨?_⟩, ⟨(HR7.out.but HB8.out (fun e => e) (fun j e => e.elim)).but HB9.out (by omega) (fun j e => by omega)⟩⟩, by simp [intOf]; omega⟩
      rw [HST.out]
      exact HT9.out
    · obtain rfl : k = l0.length := by omega
      have d1 : decide ((l0.length : Int) < (l0.length : Int)) = false := decide_eq_false (by omega)
      go_wp2
      go_loopw [12, 13, 52, 53, 54, 55, 56, 57, 58, 59, 60, 61, 62, 63, 64, 65, 66, 67, 68, 69, 70, 71] (fun _ _ v52 _ _ _ _ _ _ _ _ _ _ _ _ _ _ _ _ _ _ _ wr => ∃ k : Nat, k ≤ l0.length ∧ v52 = .int .i64 k ∧ Aside0 (Below w.heap.size w wr) ∧ Aside0 (St sb ub fb rb A1 c1 l1 a2 wr (l0.length + k) (passB l0 l1 a2 k)) ∧ Aside0 (RefsAt wr bR rb l1.length (refsTo l1 (noneUsed l1) l1.length))) (fun _ _ v52 _ _ _ _ _ _ _ _ _ _ _ _ _ _ _ _ _ _ _ _ => l0.length - (intOf v52).toNat)
      case atStart => exact ⟨0, Nat.zero_le _, rfl, HB, HT, HR⟩
      case round =>
        clear HB HT HR d1
        obtain ⟨k, hk, rfl, HB, HT, HR⟩ := hrel
        by_cases hlt : k < l0.length
        · obtain ⟨ad, e, q0, q1, q2, q3⟩ := at_T50 (HC50.out wr HB.out) (k : Int) (by omega) (by omega)
          subst e
          rw [Int.toNat_natCast] at q0 q1 q2 q3
          have d1 : decide ((k : Int) < (l0.length : Int)) = true := decide_eq_true (by omega)
          have d2 : decide (k < l0.length) = true := decide_eq_true hlt
          have p0 : (0 : Int) ≤ (k : Int) := by omega
          have p1 : (k : Int) < (l0.length : Int) := by omega
          go_upto_region 14 with (fail)
          refine with_world (P := fun x => Code.wp _ _ _ _ x) _ ?_
          intro w7 hw7
          have B7 := Aside0.mk (show But (fun _ => False) wr w7 by rw [hw7]; exact (But.refl _ wr).alloc _)
          have BK7 : w7.heap[wr.heap.size]? = some (.cells #[.int .i64 (rd_T50 l0 (k : Int)).f0, .int .i64 (rd_T50 l0 (k : Int)).f1, .string (rd_T50 l0 (k : Int)).f2, .string (rd_T50 l0 (k : Int)).f3] 50 (0, 0)) := by rw [hw7]; exact blk_new wr _
          clear hw7 q0 q1 q2 q3
          have HB7 := Aside0.mk (B7.out.below HB.out HB.out.size (fun k e => e.elim))
          have HT7 := Aside0.mk (HT.out.but0 B7.out)
          have HR7 := Aside0.mk (HR.out.but B7.out (fun e => e) (fun j e => e.elim))
          have hls : (rd_T50 l0 (k : Int)).f2.size ≤ maxLen := by
            have : rd_T50 l0 (k : Int) = l0[k] := by simp [rd_T50, List.getD, hlt]
            rw [this]; exact hz0 _ (List.getElem_mem hlt)
          obtain ⟨line, hline⟩ : ∃ line, rd_T50 l0 (k : Int) = line := ⟨_, rfl⟩
          have HL := Aside0.mk hline
          rw [hline] at BK7 hls
          clear hline
          obtain ⟨sn, hsn⟩ : ∃ sn, wr.heap.size = sn := ⟨_, rfl⟩
          rw [hsn] at BK7 ⊢
          clear hsn
          have b0 := (blk_cell BK7 0).trans rfl
          have b1 := (blk_cell BK7 1).trans rfl
          have b2 := (blk_cell BK7 2).trans rfl
          have b3 := (blk_cell BK7 3).trans rfl
          have hsl : sb < w7.heap.size := (Array.getElem?_eq_some_iff.1 HT7.out.1).1
          obtain ⟨s0, s1, s2, s3, s4⟩ := HT7.out.1.cells
          obtain ⟨F, hF7, hRow7⟩ := HT7.out.2.2
          have look := hF7.look (i := (k : Int)) (WalkArith.wf_i64 (by omega))
          obtain ⟨Af, cf, ef⟩ := (hRow7 (k : Int)).slice
          rw [ef] at look
          clear hF7 hRow7 ef
          obtain ⟨fl, hfl⟩ : ∃ fl, (passB l0 l1 a2 k).2 (k : Int) = fl := ⟨_, rfl⟩
          rw [hfl] at look
          have HFL := Aside0.mk hfl
          clear hfl
          by_cases hem : fl = []
          · have HST := Aside0.mk (show passB l0 l1 a2 (k + 1) = (mark (passB l0 l1 a2 k).1 (pickNear l1 (passB l0 l1 a2 k).1 a2 line), upd (passB l0 l1 a2 k).2 (k : Int) (pickNear l1 (passB l0 l1 a2 k).1 a2 line)) by
              show stepOf (pickB l1 a2) l0 (passB l0 l1 a2 k) k = _
              unfold stepOf
              rw [if_pos (HFL.out.trans hem), HL.out]; try rfl)
            subst hem
            go_wp2_with (first | (go_at_call 27; refine (near_calls line (passB l0 l1 a2 k).1 w7 HT7.out.1 HT7.out.2.1 (HC52.out _ HB7.out) hc1).mono ?_; rintro e w8 ⟨v, rfl, hb8, hrow8⟩; have HB8 := Aside0.mk hb8; have HT8 := Aside0.mk (HT7.out.but0 hb8); have HW8 := Aside0.mk hrow8; clear hb8 hrow8) | (go_at_call 25; refine (take_st HT8.out ho (by unfold maxLen; omega) (k : Int) (WalkArith.wf_i64 (by omega)) v _ w7.heap.size HW8.out (by omega) (fun z hz => pickNear_mem hz)).mono ?_; rintro e w9 ⟨rfl, hb9, hst9⟩; have HB9 := Aside0.mk hb9; have HT9 := Aside0.mk hst9; clear hb9 hst9))
            have hB8 := HB8.out.below HB7.out HB7.out.size (fun j e => e.elim)
            refine ⟨⟨k + 1, by omega, by simp, ⟨HB9.out.below hB8 hB8.size (fun j e => by omega)⟩, ⟨?_⟩, ⟨(HR7.out.but HB8.out (fun e => e) (fun j e => e.elim)).but HB9.out (by omega) (fun j e => by omega)⟩⟩, by simp [intOf]; omega⟩
            rw [HST.out]
            exact HT9.out
          · have HST := Aside0.mk (show passB l0 l1 a2 (k + 1) = passB l0 l1 a2 k by
              show stepOf (pickB l1 a2) l0 (passB l0 l1 a2 k) k = _
              unfold stepOf
              rw [if_neg (by rw [HFL.out]; exact hem)])
            have hpos : 0 < fl.length := List.length_pos_iff.2 hem
            have hq : ((fl.length : Int) == 0) = false := beq_eq_false_iff_ne.mpr (by omega)
            have hq2 : (fl.length == 0) = false := beq_eq_false_iff_ne.mpr (by omega)
            go_wp2
            refine ⟨⟨k + 1, by omega, by simp, HB7, ⟨?_⟩, HR7⟩, by simp [intOf]; omega⟩
            rw [HST.out]
            exact HT7.out.mono (by omega)
        · obtain rfl : k = l0.length := by omega
          have d1 : decide ((l0.length : Int) < (l0.length : Int)) = false := decide_eq_false (by omega)
          have hM : ∃ es clock, wr.heap[rb]? = some (.map es clock) := by
            obtain ⟨D, ⟨es, clock, hb, _⟩, _⟩ := HR.out
            exact ⟨es, clock, hb⟩
          go_wp2_with (first | (go_at_call 24; refine (index_calls (passB l0 l1 a2 l0.length).1 wr HT.out.1 HT.out.2.1 w.heap.size (HFF.out _ HB.out) (by omega) hc1 hM hz1 hn1 (by omega) (by omega)).mono ?_; rintro e w6 ⟨rfl, hb6, hr6⟩))
          have HT6 := Aside0.mk (HT.out.butR hb6 ho)
          have HB6 := Aside0.mk (hb6.below HB.out HB.out.size (fun k e => by omega))
          have bRsb2 : sb < wr.heap.size := (Array.getElem?_eq_some_iff.1 HT.out.1).1
          obtain ⟨bR2, hbR⟩ : ∃ s, wr.heap.size = s := ⟨_, rfl⟩
          rw [hbR] at hr6 bRsb2
          have HR6 := Aside0.mk hr6
          clear hb6 hr6 hbR hM HT HB HR d1
          go_loopw [14, 15, 76, 77, 78, 79, 80, 81, 82, 83, 84, 85, 86, 87, 88, 89, 90, 91, 92, 93, 94, 95] (fun _ _ v76 _ _ _ _ _ _ _ _ _ _ _ _ _ _ _ _ _ _ _ wr => ∃ k : Nat, k ≤ l0.length ∧ v76 = .int .i64 k ∧ Aside0 (Below w.heap.size w wr) ∧ Aside0 (St sb ub fb rb A1 c1 l1 a2 wr (l0.length + l0.length + k) (passC l0 l1 a2 k)) ∧ Aside0 (RefsAt wr bR2 rb l1.length (refsTo l1 (passB l0 l1 a2 l0.length).1 l1.length))) (fun _ _ v76 _ _ _ _ _ _ _ _ _ _ _ _ _ _ _ _ _ _ _ _ => l0.length - (intOf v76).toNat)
          case atStart => exact ⟨0, Nat.zero_le _, rfl, HB6, HT6, HR6⟩
          case round =>
            clear HB6 HT6 HR6
            obtain ⟨k, hk, rfl, HB, HT, HR⟩ := hrel
            by_cases hlt : k < l0.length
            · obtain ⟨ad, e, q0, q1, q2, q3⟩ := at_T50 (HC50.out wr HB.out) (k : Int) (by omega) (by omega)
              subst e
              rw [Int.toNat_natCast] at q0 q1 q2 q3
              have d1 : decide ((k : Int) < (l0.length : Int)) = true := decide_eq_true (by omega)
              have d2 : decide (k < l0.length) = true := decide_eq_true hlt
              have p0 : (0 : Int) ≤ (k : Int) := by omega
              have p1 : (k : Int) < (l0.length : Int) := by omega
              go_upto_region 21 with (fail)
              refine with_world (P := fun x => Code.wp _ _ _ _ x) _ ?_
              intro w7 hw7
              have B7 := Aside0.mk (show But (fun _ => False) wr w7 by rw [hw7]; exact (But.refl _ wr).alloc _)
              have BK7 : w7.heap[wr.heap.size]? = some (.cells #[.int .i64 (rd_T50 l0 (k : Int)).f0, .int .i64 (rd_T50 l0 (k : Int)).f1, .string (rd_T50 l0 (k : Int)).f2, .string (rd_T50 l0 (k : Int)).f3] 50 (0, 0)) := by rw [hw7]; exact blk_new wr _
              clear hw7 q0 q1 q2 q3
              have HB7 := Aside0.mk (B7.out.below HB.out HB.out.size (fun k e => e.elim))
              have HT7 := Aside0.mk (HT.out.but0 B7.out)
              have HR7 := Aside0.mk (HR.out.but B7.out (fun e => e) (fun j e => e.elim))
              have hls : (rd_T50 l0 (k : Int)).f2.size ≤ maxLen := by
                have : rd_T50 l0 (k : Int) = l0[k] := by simp [rd_T50, List.getD, hlt]
                rw [this]; exact hz0 _ (List.getElem_mem hlt)
              obtain ⟨line, hline⟩ : ∃ line, rd_T50 l0 (k : Int) = line := ⟨_, rfl⟩
              have HL := Aside0.mk hline
              rw [hline] at BK7 hls
              clear hline
              obtain ⟨sn, hsn⟩ : ∃ sn, wr.heap.size = sn := ⟨_, rfl⟩
              rw [hsn] at BK7 ⊢
              clear hsn
              have b0 := (blk_cell BK7 0).trans rfl
              have b1 := (blk_cell BK7 1).trans rfl
              have b2 := (blk_cell BK7 2).trans rfl
              have b3 := (blk_cell BK7 3).trans rfl
              have hsl : sb < w7.heap.size := (Array.getElem?_eq_some_iff.1 HT7.out.1).1
              obtain ⟨s0, s1, s2, s3, s4⟩ := HT7.out.1.cells
              obtain ⟨F, hF7, hRow7⟩ := HT7.out.2.2
              have look := hF7.look (i := (k : Int)) (WalkArith.wf_i64 (by omega))
              obtain ⟨Af, cf, ef⟩ := (hRow7 (k : Int)).slice
              rw [ef] at look
              clear hF7 hRow7 ef
              obtain ⟨fl, hfl⟩ : ∃ fl, (passC l0 l1 a2 k).2 (k : Int) = fl := ⟨_, rfl⟩
              rw [hfl] at look
              have HFL := Aside0.mk hfl
              clear hfl
              by_cases hem : fl = []
              · have HST := Aside0.mk (show passC l0 l1 a2 (k + 1) = (mark (passC l0 l1 a2 k).1 (pickC l1 (passB l0 l1 a2 l0.length).1 (passC l0 l1 a2 k).1 line), upd (passC l0 l1 a2 k).2 (k : Int) (pickC l1 (passB l0 l1 a2 l0.length).1 (passC l0 l1 a2 k).1 line)) by
                  show stepOf _ _ (passC l0 l1 a2 k) k = _
                  unfold stepOf
                  rw [if_pos (HFL.out.trans hem), HL.out]; try rfl)
                subst hem
                go_wp2_with (first | (go_at_call 28; refine (group_calls line (passC l0 l1 a2 k).1 (refsTo l1 (passB l0 l1 a2 l0.length).1 l1.length) bR2 l1.length w7 (by unfold maxLen; omega) hls HT7.out.1 HT7.out.2.1 (HC52.out _ HB7.out) hc1 HR7.out (fun z hz => refsTo_mem hz) (Nat.le_trans (refsTo_len _ _ _ _) hn1)).mono ?_; rintro e w8 ⟨v, rfl, hb8, hrow8⟩; have HB8 := Aside0.mk hb8; have HT8 := Aside0.mk (HT7.out.but0 hb8); have HW8 := Aside0.mk hrow8; clear hb8 hrow8) | (go_at_call 25; refine (take_st HT8.out ho (by unfold maxLen; omega) (k : Int) (WalkArith.wf_i64 (by omega)) v _ w7.heap.size HW8.out (by omega) (fun z hz => refsTo_mem (pickGroup_mem hz))).mono ?_; rintro e w9 ⟨rfl, hb9, hst9⟩; have HB9 := Aside0.mk hb9; have HT9 := Aside0.mk hst9; clear hb9 hst9))
                have hB8 := HB8.out.below HB7.out HB7.out.size (fun j e => e.elim)
                refine ⟨⟨k + 1, by omega, by simp, ⟨HB9.out.below hB8 hB8.size (fun j e => by omega)⟩, ⟨?_⟩, ⟨(HR7.out.but HB8.out (fun e => e) (fun j e => e.elim)).but HB9.out (by omega) (fun j e => by omega)⟩⟩, by simp [intOf]; omega⟩
                rw [HST.out]
                exact HT9.out
              · have HST := Aside0.mk (show passC l0 l1 a2 (k + 1) = passC l0 l1 a2 k by
                  show stepOf _ _ (passC l0 l1 a2 k) k = _
                  unfold stepOf
                  rw [if_neg (by rw [HFL.out]; exact hem)])
                have hpos : 0 < fl.length := List.length_pos_iff.2 hem
                have hq : ((fl.length : Int) == 0) = false := beq_eq_false_iff_ne.mpr (by omega)
                have hq2 : (fl.length == 0) = false := beq_eq_false_iff_ne.mpr (by omega)
                go_wp2
                refine ⟨⟨k + 1, by omega, by simp, HB7, ⟨?_⟩, HR7⟩, by simp [intOf]; omega⟩
                rw [HST.out]
                exact HT7.out.mono (by omega)
            · obtain rfl : k = l0.length := by omega
              have d1 : decide ((l0.length : Int) < (l0.length : Int)) = false := decide_eq_false (by omega)
              obtain ⟨wD, hwD⟩ : ∃ W, wr = W := ⟨_, rfl⟩
              rw [hwD] at HB HT HR ⊢
              clear hwD
              obtain ⟨F, hFD, hRowD⟩ := HT.out.2.2
              have HFD := Aside0.mk hFD
              have HRD := Aside0.mk hRowD
              have HSD := Aside0.mk HT.out.1
              have HBD := HB
              have zD : sb < wD.heap.size := (Array.getElem?_eq_some_iff.1 HT.out.1).1
              clear hFD hRowD HT HR HB
              obtain ⟨f, hf⟩ : ∃ f, (passC l0 l1 a2 l0.length).2 = f := ⟨_, rfl⟩
              have HO := Aside0.mk (show runOf l0 l1 a2 = outTo f l0.length by rw [← hf]; rfl)
              rw [hf] at HRD
              clear hf
              go_wp2
              go_loopw [6, 16, 17, 98, 99, 100, 101, 102, 103, 104, 105, 106, 107, 108, 109, 110, 111, 112, 113, 114, 115, 116] (fun v6 _ _ v98 _ _ _ _ _ _ _ _ _ _ _ _ _ _ _ _ _ _ wr => ∃ k : Nat, k ≤ l0.length ∧ v98 = .int .i64 k ∧ Aside0 (Below wD.heap.size wD wr) ∧ Aside0 (Kd.N k54 54 wr wD.heap.size (fun k_ => w.heap.size ≤ k_) v6 (outTo f k))) (fun _ _ _ v98 _ _ _ _ _ _ _ _ _ _ _ _ _ _ _ _ _ _ _ => l0.length - (intOf v98).toNat)
              case atStart => exact ⟨0, Nat.zero_le _, rfl, ⟨Below.refl _ _⟩, ⟨Kd.R_N (Kd.R_nil _ _ _ _ _)⟩⟩
              case round =>
                obtain ⟨k, hk, rfl, HB, HN⟩ := hrel
                have hS := HSD.out.but (But.of_below HB.out (fun _ => False)) (fun e => e)
                obtain ⟨s0, s1, s2, s3, s4⟩ := hS.cells
                by_cases hlt : k < l0.length
                · have hlen := outTo_len f k
                  have look := (HFD.out.but (But.of_below HB.out (fun _ => False)) (fun e => e)).look (i := (k : Int)) (WalkArith.wf_i64 (by omega))
                  have hrow := HRD.out (k : Int)
                  obtain ⟨Af, cf, ef⟩ := hrow.slice
                  rw [ef] at look hrow
                  clear ef
                  obtain ⟨hcf, hfoot⟩ := hrow.foot
                  obtain ⟨fl, hfl⟩ : ∃ fl, f (k : Int) = fl := ⟨_, rfl⟩
                  rw [hfl] at look hcf hfoot
                  have HFT := Aside0.mk (Kd.F_step hfoot (fun j hj hlt => HB.out.block j hlt))
                  have HCF := Aside0.mk hcf
                  clear hfoot hrow hcf
                  have d1 : decide ((k : Int) < (l0.length : Int)) = true := decide_eq_true (by omega)
                  have d2 : decide (k < l0.length) = true := decide_eq_true hlt
                  have HST := Aside0.mk (show outTo f (k + 1) = outTo f k ++ (if fl = [] then [] else [⟨(k : Int), fl⟩]) by
                    show outTo f k ++ (if f (k : Int) = [] then [] else [⟨(k : Int), f (k : Int)⟩]) = _
                    rw [hfl])
                  clear hfl
                  by_cases hem : fl = []
                  · subst hem
                    go_wp2
                    refine ⟨⟨k + 1, by omega, by simp, HB, ⟨?_⟩⟩, by simp [intOf]; omega⟩
                    rw [HST.out, if_pos rfl, List.append_nil]
                    exact HN.out
                  · have hpos : 0 < fl.length := List.length_pos_iff.2 hem
                    have hq : decide ((0 : Int) < (fl.length : Int)) = true := decide_eq_true (by omega)
                    have hq2 : decide (0 < fl.length) = true := decide_eq_true hpos
                    go_wp2_with (first | ((with_reducible refine gate_builtin (b := .append) (xs := #[.tmp 110, .tmp 114]) rfl ?_); at_builtin; refine Kd.N_append k54 (w0 := wD) wD.heap.size rfl (.tmp 110) (.tmp 114) 28 54 (.agg #[(.int .i64 0), (.slice none 0 0)]) 32 rfl Tryd.underlying28 info54 rfl (by decide) (by omega) _ (outTo f k) (⟨(k : Int), fl⟩ : S54) [.int .i64 (k : Int), .slice Af fl.length cf] (fun k_ => w.heap.size ≤ k_) (fun k_ => sb + 1 ≤ k_ ∧ k_ < wD.heap.size) rfl rfl (k54_mkF _ _ (⟨(k : Int), fl⟩ : S54) HCF.out HFT.out) (fun j hj => ⟨by omega, fun e => by have := Kd.N_base HN.out j e.symm; omega⟩) (fun j hj => by have := HBD.out.size; have := HB.out.size; omega) HN.out HB.out HB.out.size (by omega) ?_; intro v1 w1 hn1' hb1' hg1' hat1'; have HN2 := Aside0.mk hn1'; have HB2 := Aside0.mk hb1'; clear hn1' hb1' hg1' hat1'))
                    refine ⟨⟨k + 1, by omega, by simp, HB2, ⟨?_⟩⟩, by simp [intOf]; omega⟩
                    rw [HST.out, if_neg hem]
                    exact HN2.out
                · obtain rfl : k = l0.length := by omega
                  have d1 : decide ((l0.length : Int) < (l0.length : Int)) = false := decide_eq_false (by omega)
                  have HNN := Aside0.mk (show Kd.N k54 54 wr w.heap.size (fun k_ => w.heap.size ≤ k_) _ (runOf l0 l1 a2) by rw [HO.out]; exact Kd.N_lower HN.out HBD.out.size)
                  have HBB := Aside0.mk (show Below w.heap.size w wr from HBD.out.trans (HB.out.mono HBD.out.size))
                  clear HO
                  go_wp2
                  go_ret2
                  exact ⟨_, rfl, HNN.out, HBB.out⟩
end Go.Proofs.YtinfcbfdeacllaaDoor.P

/- What the checks of match.Run come to: days, amounts, the window, the numbers of lines. -/
namespace Go.Proofs.YtinfcbfdeacllaaDoor.P
open Go.RowKit Go.Proofs.YtinfcbfdeacllaaDoorW.PrintWords Go.Proofs.YtinfcbfdeacllaaDoorW.PrintLast Go.Proofs.YtinfcbfdeacllaaDoorW.PrintMore
set_option linter.unusedVariables false
set_option linter.unusedSimpArgs false
theorem w64 {x : Int} (h0 : 0 ≤ x) (h1 : x < 9223372036854775000) : wrap64 x = x := by unfold wrap64; omega
theorem w64s {x : Int} (h0 : -9223372036854775000 ≤ x) (h1 : x < 9223372036854775000) : wrap64 x = x := by unfold wrap64; omega
def bf (y : Int) : Int := 365 * (y - 1900) + ((y - 1) / 4 - (y - 1) / 100 + (y - 1) / 400 - 460)
theorem before_eq (y : Int) (h0 : 1900 ≤ y) (h1 : y ≤ 2200) : days_before.f y = some (bf y) := by
  have e1 : wrap64 (y - 1) = y - 1 := w64 (by omega) (by omega)
  have e2 : Int.tdiv (y - 1) 4 = (y - 1) / 4 := Int.tdiv_eq_ediv_of_nonneg (by omega)
  have e3 : Int.tdiv (y - 1) 100 = (y - 1) / 100 := Int.tdiv_eq_ediv_of_nonneg (by omega)
  have e4 : Int.tdiv (y - 1) 400 = (y - 1) / 400 := Int.tdiv_eq_ediv_of_nonneg (by omega)
  unfold days_before.f
  rw [e1, e2, e3, e4]
  rw [w64s (x := (y - 1) / 4) (by omega) (by omega), w64s (x := (y - 1) / 100) (by omega) (by omega), w64s (x := (y - 1) / 400) (by omega) (by omega)]
  rw [w64s (x := y - 1900) (by omega) (by omega), w64s (x := 365 * (y - 1900)) (by omega) (by omega)]
  rw [w64s (x := (y - 1) / 4 - (y - 1) / 100) (by omega) (by omega), w64s (x := (y - 1) / 4 - (y - 1) / 100 + (y - 1) / 400) (by omega) (by omega)]
  rw [w64s (x := (y - 1) / 4 - (y - 1) / 100 + (y - 1) / 400 - 474) (by omega) (by omega)]
  rw [w64s (x := (y - 1) / 4 - (y - 1) / 100 + (y - 1) / 400 - 474 + 18) (by omega) (by omega)]
  rw [w64s (x := (y - 1) / 4 - (y - 1) / 100 + (y - 1) / 400 - 474 + 18 - 4) (by omega) (by omega)]
  rw [w64s (by omega) (by omega)]
  unfold bf
  congr 1
  omega
def leapB (y : Int) : Bool := (y % 4 == 0 && y % 100 != 0) || y % 400 == 0
theorem leap_eq (y : Int) (h0 : 0 ≤ y) : days_Leap.f y = some (leapB y) := by
  unfold days_Leap.f leapB
  rw [Int.tmod_eq_emod_of_nonneg h0, Int.tmod_eq_emod_of_nonneg h0, Int.tmod_eq_emod_of_nonneg h0]
  by_cases c1 : y % 4 = 0
  · rw [if_pos c1]
    by_cases c2 : y % 100 = 0
    · rw [if_pos c2]; simp [c2]
    · rw [if_neg c2]; simp [c1, c2]
  · rw [if_neg c1]; simp [c1]
def mlen (b : Bool) (m : Int) : Int := if m = 2 then (if b = true then 29 else 28) else lens.getD (m - 1).toNat 0
theorem length_eq (y m : Int) (h0 : 0 ≤ y) (h1 : 1 ≤ m) (h2 : m ≤ 12) : days_Length.f y m = some (mlen (leapB y) m) := by
  unfold days_Length.f mlen
  rw [if_pos h1, if_pos h2, leap_eq y h0]
  by_cases c : m = 2
  · rw [if_pos c, if_pos c]
    cases leapB y <;> rfl
  · rw [if_neg c, if_neg c]
def remc (b : Bool) : Nat → Int
  | 0 => 31
  | c + 1 => remc b c + mlen b (11 - (c : Int))
theorem mlen_pos (b : Bool) (m : Int) (h1 : 1 ≤ m) (h2 : m ≤ 12) : 0 < mlen b m ∧ mlen b m ≤ 31 := by
  have : m = 1 ∨ m = 2 ∨ m = 3 ∨ m = 4 ∨ m = 5 ∨ m = 6 ∨ m = 7 ∨ m = 8 ∨ m = 9 ∨ m = 10 ∨ m = 11 ∨ m = 12 := by omega
  rcases this with rfl | rfl | rfl | rfl | rfl | rfl | rfl | rfl | rfl | rfl | rfl | rfl <;> cases b <;> decide
theorem month_ev (y : Int) (hy : 0 ≤ y) (z : Int) : ∀ (c : Nat) (M r : Int), M + c = 12 → 1 ≤ M → 0 ≤ r → r < remc (leapB y) c → ∃ m d, Ev (fun k => days_Date.l1 k r y M z) (y, m, d, 0)
  | 0, M, r, h1, h2, h3, h4 => by
    have : M = 12 := by omega
    subst this
    refine ⟨12, wrap64 (r + 1), Ev.step (fun k => days_Date.l1.eq_2 _ _ _ _ k) ?_⟩
    simp only [length_eq y 12 hy (by omega) (by omega), Option.bind_some]
    have e : mlen (leapB y) 12 = 31 := by cases leapB y <;> rfl
    rw [e]
    have : r < 31 := h4
    simp only [if_neg (show ¬ r ≥ 31 by omega)]
    exact Ev.now _
  | c + 1, M, r, h1, h2, h3, h4 => by
    have hr : r < remc (leapB y) c + mlen (leapB y) (11 - (c : Int)) := h4
    have eM : (11 - (c : Int)) = M := by omega
    rw [eM] at hr
    obtain ⟨p1, p2⟩ := mlen_pos (leapB y) M (by omega) (by omega)
    by_cases hc : r ≥ mlen (leapB y) M
    · have hw : wrap64 (r - mlen (leapB y) M) = r - mlen (leapB y) M := by
        have : r < 9223372036854775000 := by
          have := remc_le (leapB y) (c + 1) (by omega)
          omega
        rw [w64 (by omega) (by omega)]
      obtain ⟨m, d, h⟩ := month_ev y hy z c (M + 1) (r - mlen (leapB y) M) (by omega) (by omega) (by omega) (by omega)
      refine ⟨m, d, Ev.step (fun k => days_Date.l1.eq_2 _ _ _ _ k) ?_⟩
      simp only [length_eq y M hy (by omega) (by omega), Option.bind_some, if_pos hc, hw, w64 (show 0 ≤ M + 1 by omega) (by omega)]
      exact h
    · refine ⟨M, wrap64 (r + 1), Ev.step (fun k => days_Date.l1.eq_2 _ _ _ _ k) ?_⟩
      simp only [length_eq y M hy (by omega) (by omega), Option.bind_some, if_neg hc]
      exact Ev.now _
where
  remc_le (b : Bool) : ∀ c : Nat, c ≤ 11 → remc b c ≤ 31 * (c + 1)
    | 0, _ => by show (31 : Int) ≤ _; omega
    | c + 1, h => by
      have := remc_le b c (by omega)
      have := (mlen_pos b (11 - (c : Int)) (by omega) (by omega)).2
      show remc b c + _ ≤ _
      omega
theorem remc_year (b : Bool) : remc b 11 = if b = true then 366 else 365 := by cases b <;> decide
theorem bf_step (y : Int) (h0 : 1900 ≤ y) (h1 : y ≤ 2199) : bf (y + 1) - bf y = remc (leapB y) 11 := by
  rw [remc_year]
  unfold bf leapB
  by_cases c1 : y % 4 = 0 <;> by_cases c2 : y % 100 = 0 <;> by_cases c3 : y % 400 = 0 <;> simp [c1, c2, c3] <;> omega
theorem j1_ev (n y : Int) (h0 : 1900 ≤ y) (h1 : y ≤ 2199) (h2 : bf y ≤ n) (h3 : n < bf (y + 1)) (hn : 0 ≤ n) (hn2 : n ≤ 109572) (z m : Int) : ∃ m' d, Ev (fun k => days_Date.j1 k n y m z) (y, m', d, 0) := by
  have hs := bf_step y h0 h1
  have hb : 0 ≤ bf y := by unfold bf; omega
  obtain ⟨m', d, h⟩ := month_ev y (by omega) z 11 1 (n - bf y) (by omega) (by omega) (by omega) (by omega)
  refine ⟨m', d, Ev.step (fun k => days_Date.j1.eq_2 _ _ _ _ k) ?_⟩
  simp only [before_eq y h0 (by omega), Option.bind_some, w64 (show 0 ≤ n - bf y by omega) (by omega)]
  exact h
theorem year_ev (n : Int) (hn : 0 ≤ n) (hn2 : n ≤ 109572) (z m : Int) : ∀ (c : Nat) (y : Int), y + c = 2199 → 1900 ≤ y → bf y ≤ n → ∃ y' m' d, Ev (fun k => days_Date.l0 k n y m z) (y', m', d, 0)
  | 0, y, h1, h2, h3 => by
    have : y = 2199 := by omega
    subst this
    have hbf : bf (2199 + 1) = 109573 := by decide
    obtain ⟨m', d, h⟩ := j1_ev n 2199 (by omega) (by omega) h3 (by rw [hbf]; omega) hn hn2 z m
    refine ⟨2199, m', d, Ev.step (fun k => days_Date.l0.eq_2 _ _ _ _ k) ?_⟩
    simp only [if_neg (show ¬ (2199 : Int) < 2199 by omega)]
    exact h
  | c + 1, y, h1, h2, h3 => by
    by_cases hc : bf (y + 1) ≤ n
    · obtain ⟨y', m', d, h⟩ := year_ev n hn hn2 z m c (y + 1) (by omega) (by omega) hc
      refine ⟨y', m', d, Ev.step (fun k => days_Date.l0.eq_2 _ _ _ _ k) ?_⟩
      simp only [if_pos (show y < 2199 by omega), w64 (show 0 ≤ y + 1 by omega) (by omega), before_eq (y + 1) (by omega) (by omega), Option.bind_some, if_pos hc]
      exact h
    · obtain ⟨m', d, h⟩ := j1_ev n y h2 (by omega) h3 (by omega) hn hn2 z m
      refine ⟨y, m', d, Ev.step (fun k => days_Date.l0.eq_2 _ _ _ _ k) ?_⟩
      simp only [if_pos (show y < 2199 by omega), w64 (show 0 ≤ y + 1 by omega) (by omega), before_eq (y + 1) (by omega) (by omega), Option.bind_some, if_neg hc]
      exact h
theorem bf_start (n : Int) (hn : 0 ≤ n) (hn2 : n ≤ 109572) : bf (1900 + n / 366) ≤ n := by
  unfold bf
  have h1 : 0 ≤ n / 366 := by omega
  have h2 : n / 366 ≤ 299 := by omega
  have h3 : 366 * (n / 366) ≤ n := by omega
  generalize n / 366 = q at *
  omega
theorem day_ev (n : Int) : Ev (fun k => match_day.f k n) (decide (0 ≤ n ∧ n ≤ 109572)) := by
  unfold match_day.f days_Date.f days_is.f
  by_cases h0 : n ≥ 0
  · by_cases h1 : n ≤ 109572
    · have e1 : Int.tdiv n 366 = n / 366 := Int.tdiv_eq_ediv_of_nonneg h0
      have e2 : wrap64 (1900 + wrap64 (n / 366)) = 1900 + n / 366 := by rw [w64 (x := n / 366) (by omega) (by omega), w64 (by omega) (by omega)]
      obtain ⟨y', m', d, h⟩ := year_ev n h0 h1 0 0 (2199 - (1900 + n / 366)).toNat (1900 + n / 366) (by omega) (by omega) (bf_start n h0 h1)
      simp only [if_pos h0, decide_eq_true h1, Option.bind_some, e1, e2, if_true]
      have : decide (0 ≤ n ∧ n ≤ 109572) = true := decide_eq_true ⟨h0, h1⟩
      rw [this]
      exact h.bind (Ev.now _)
    · have : decide (0 ≤ n ∧ n ≤ 109572) = false := decide_eq_false (by omega)
      rw [this]
      simp only [if_pos h0, decide_eq_false h1, Option.bind_some]
      exact Ev.now _
  · have : decide (0 ≤ n ∧ n ≤ 109572) = false := decide_eq_false (by omega)
    rw [this]
    simp only [if_neg h0, Option.bind_some]
    exact Ev.now _
theorem wrong_ev (n a : Int) : Ev (fun k => match_wrong.f k n a) (wrongOf n a) := by
  unfold match_wrong.f wrongOf
  refine (day_ev n).bind ?_
  by_cases h : 0 ≤ n ∧ n ≤ 109572
  · simp only [decide_eq_true h, if_pos h, if_true]
    by_cases h1 : a > 1000000000000
    · simp only [if_pos h1, if_pos (Or.inl h1 : a > 1000000000000 ∨ a < -1000000000000)]; exact Ev.now _
    · simp only [if_neg h1]
      by_cases h2 : a < -1000000000000
      · simp only [if_pos h2, if_pos (Or.inr h2 : a > 1000000000000 ∨ a < -1000000000000)]; exact Ev.now _
      · simp only [if_neg h2, if_neg (show ¬ (a > 1000000000000 ∨ a < -1000000000000) by omega)]; exact Ev.now _
  · simp only [decide_eq_false h, if_neg h]
    exact Ev.now _
theorem firstOf_cons (x : Int) (l : List Int) : firstOf (x :: l) = if x = 0 then firstOf l else x := by
  unfold firstOf
  by_cases h : x = 0
  · have hb : (x != 0) = false := bne_eq_false_iff_eq.mpr h
    rw [if_pos h, List.find?_cons, hb]
  · have hb : (x != 0) = true := bne_iff_ne.mpr h
    rw [if_neg h, List.find?_cons, hb]
    rfl
theorem rd50_drop {l : List S50} {i : Nat} (h : i < l.length) : l.drop i = rd_T50 l (i : Int) :: l.drop (i + 1) := by
  rw [show rd_T50 l (i : Int) = l[i] by simp [rd_T50, h], List.drop_eq_getElem_cons h]
theorem rd52_drop {l : List S52} {i : Nat} (h : i < l.length) : l.drop i = rd_T52 l (i : Int) :: l.drop (i + 1) := by
  rw [show rd_T52 l (i : Int) = l[i] by simp [rd_T52, h], List.drop_eq_getElem_cons h]
theorem check_l1 (books : List S52) (hb : books.length ≤ 4000) : ∀ (n i : Nat), books.length - i = n → i ≤ books.length → Ev (fun k => match_check.l1 k books (books.length : Int) (i : Int)) (firstOf ((books.drop i).map (fun b => wrongOf b.f1 b.f2))) := by
  intro n
  induction n with
  | zero =>
    intro i hn hi
    refine Ev.step (fun k => match_check.l1.eq_2 _ _ _ k) ?_
    simp only [if_neg (show ¬ ((i : Int) < (books.length : Int)) by omega)]
    rw [List.drop_of_length_le (by omega)]
    exact Ev.now _
  | succ n ih =>
    intro i hn hi
    refine Ev.step (fun k => match_check.l1.eq_2 _ _ _ k) ?_
    have hw : wrap64 ((i : Int) + 1) = ((i + 1 : Nat) : Int) := by rw [w64 (by omega) (by omega)]; omega
    simp only [if_pos (show ((i : Int) < (books.length : Int)) by omega), if_pos (show (0 : Int) ≤ (i : Int) by omega), hw]
    rw [rd52_drop (show i < books.length by omega), List.map_cons, firstOf_cons]
    refine (wrong_ev _ _).bind ?_
    by_cases h : wrongOf (rd_T52 books (i : Int)).f1 (rd_T52 books (i : Int)).f2 = 0
    · simp only [if_pos h]
      exact ih (i + 1) (by omega) (by omega)
    · simp only [if_neg h]
      exact Ev.now _
theorem firstOf_app (a b : List Int) : firstOf (a ++ b) = if firstOf a = 0 then firstOf b else firstOf a := by
  induction a with
  | nil => rfl
  | cons x r ih =>
    rw [List.cons_append, firstOf_cons, firstOf_cons, ih]
    by_cases h : x = 0
    · simp [h]
    · simp [h]
theorem check_l0 (lines : List S50) (books : List S52) (hl : lines.length ≤ 200) (hb : books.length ≤ 4000) : ∀ (n i : Nat), lines.length - i = n → i ≤ lines.length → Ev (fun k => match_check.l0 k books lines (lines.length : Int) (i : Int)) (firstOf ((lines.drop i).map (fun l => wrongOf l.f0 l.f1) ++ books.map (fun b => wrongOf b.f1 b.f2))) := by
  intro n
  induction n with
  | zero =>
    intro i hn hi
    refine Ev.step (fun k => match_check.l0.eq_2 _ _ _ _ k) ?_
    simp only [if_neg (show ¬ ((i : Int) < (lines.length : Int)) by omega)]
    rw [List.drop_of_length_le (by omega), List.map_nil, List.nil_append]
    exact check_l1 books hb _ 0 rfl (Nat.zero_le _)
  | succ n ih =>
    intro i hn hi
    refine Ev.step (fun k => match_check.l0.eq_2 _ _ _ _ k) ?_
    have hw : wrap64 ((i : Int) + 1) = ((i + 1 : Nat) : Int) := by rw [w64 (by omega) (by omega)]; omega
    simp only [if_pos (show ((i : Int) < (lines.length : Int)) by omega), if_pos (show (0 : Int) ≤ (i : Int) by omega), hw]
    rw [rd50_drop (show i < lines.length by omega), List.map_cons, List.cons_append, firstOf_cons]
    refine (wrong_ev _ _).bind ?_
    by_cases h : wrongOf (rd_T50 lines (i : Int)).f0 (rd_T50 lines (i : Int)).f1 = 0
    · simp only [if_pos h]
      exact ih (i + 1) (by omega) (by omega)
    · simp only [if_neg h]
      exact Ev.now _
theorem check_ev (lines : List S50) (books : List S52) (win : Int) : Ev (fun k => match_check.f k lines books win) (checkOf lines books win) := by
  unfold match_check.f checkOf
  have j1t : Ev (fun k => match_check.j1 k lines books true) 9 := Ev.step (fun k => match_check.j1.eq_2 _ _ _ k) (by simp only [if_true]; exact Ev.now _)
  have big : ¬ (win < 0 ∨ win > 366) → Ev (fun k => match_check.j0 k lines books false) (if lines.length > 200 ∨ books.length > 4000 then 9 else firstOf (lines.map (fun l => wrongOf l.f0 l.f1) ++ books.map (fun b => wrongOf b.f1 b.f2))) := fun _ => by
    refine Ev.step (fun k => match_check.j0.eq_2 _ _ _ k) ?_
    simp only [Bool.false_eq_true, if_false]
    by_cases h1 : (lines.length : Int) > 200
    · simp only [if_pos h1, if_pos (Or.inl (by omega) : lines.length > 200 ∨ books.length > 4000)]
      exact j1t
    · simp only [if_neg h1]
      by_cases h2 : (books.length : Int) > 4000
      · simp only [decide_eq_true h2, if_pos (Or.inr (by omega) : lines.length > 200 ∨ books.length > 4000)]
        exact j1t
      · simp only [decide_eq_false h2, if_neg (show ¬ (lines.length > 200 ∨ books.length > 4000) by omega)]
        refine Ev.step (fun k => match_check.j1.eq_2 _ _ _ k) ?_
        simp only [Bool.false_eq_true, if_false]
        exact check_l0 lines books (by omega) (by omega) _ 0 rfl (Nat.zero_le _)
  have j0t : Ev (fun k => match_check.j0 k lines books true) 3 := Ev.step (fun k => match_check.j0.eq_2 _ _ _ k) (by simp only [if_true]; exact Ev.now _)
  by_cases h1 : win < 0
  · simp only [if_pos h1, if_pos (Or.inl h1 : win < 0 ∨ win > 366)]; exact j0t
  · simp only [if_neg h1]
    by_cases h2 : win > 366
    · simp only [decide_eq_true h2, if_pos (Or.inr h2 : win < 0 ∨ win > 366)]; exact j0t
    · simp only [decide_eq_false h2, if_neg (show ¬ (win < 0 ∨ win > 366) by omega)]
      exact big (by omega)
end Go.Proofs.YtinfcbfdeacllaaDoor.P

/- The contract of match.Run, whole. -/
namespace Go.Proofs.YtinfcbfdeacllaaDoor.P
open Go.RowKit Go.Proofs.YtinfcbfdeacllaaDoorW.PrintWords Go.Proofs.YtinfcbfdeacllaaDoorW.PrintLast Go.Proofs.YtinfcbfdeacllaaDoorW.PrintMore
set_option linter.unusedVariables false
set_option linter.unusedSimpArgs false
set_option maxHeartbeats 4000000 in
set_option maxRecDepth 100000 in
theorem run_wrong (A0 : Option Addr) (c0 : Nat) (l0 : List S50) (A1 : Option Addr) (c1 : Nat) (l1 : List S52) (a2 : Int) (w : World) (hr0 : Kd.C k50 w A0 l0.length l0) (hc0 : l0.length ≤ c0) (hr1 : Kd.C k52 w A1 l1.length l1) (hc1 : l1.length ≤ c1)
    (e0 : Int) (he : e0 ≠ 0) (kk : Nat) (hck : match_check.f kk l0 l1 a2 = some e0) (hT : Tab w) :
    Calls Tryd.prog 13 #[.slice A0 l0.length c0, .slice A1 l1.length c1, .int .i64 a2] w fun e w' => ∃ v0_ : Value, e = .returned (.tuple #[v0_, .int .i64 e0]) ∧ Kd.N k54 54 w' w.heap.size (fun k_ => (w.heap.size ≤ k_)) v0_ [] ∧ Below w.heap.size w w' := by
  have HR0 := Aside0.mk hr0
  have HR1 := Aside0.mk hr1
  clear hr0 hr1
  have HCK := Aside0.mk hck
  have HTT := Aside0.mk hT
  clear hT hck
  have hb : (e0 != 0) = true := bne_iff_ne.mpr he
  go_enter Tryd.func13, Tryd.ntmps13
  go_wp2_with (first | (go_at_call 23; refine (match_check.calls kk A0 c0 l0 A1 c1 l1 a2 e0 _ HR0.out hc0 HR1.out hc1 HCK.out HTT.out).mono ?_; rintro e w1 ⟨rfl, HB1⟩))
  go_ret2
  exact ⟨_, rfl, Kd.R_N (Kd.R_nil _ _ _ _ _), HB1⟩
theorem match_Run.calls (A0 : Option Addr) (c0 : Nat) (l0 : List S50) (A1 : Option Addr) (c1 : Nat) (l1 : List S52) (a2 : Int) (r1 : List S54) (r2 : Int) (w : World) (hr0 : Kd.C k50 w A0 l0.length l0) (hc0 : l0.length ≤ c0) (hr1 : Kd.C k52 w A1 l1.length l1) (hc1 : l1.length ≤ c1) (h : match_Run.f l0 l1 a2 = some (r1, r2)) (hT : Tab w) :
    Calls Tryd.prog 13 #[.slice A0 l0.length c0, .slice A1 l1.length c1, .int .i64 a2] w fun e w' => ∃ v0_ : Value, e = .returned (.tuple #[v0_, .int .i64 r2]) ∧ Kd.N k54 54 w' w.heap.size (fun k_ => (w.heap.size ≤ k_)) v0_ r1 ∧ Below w.heap.size w w' := by
  obtain ⟨kk, hck⟩ := (check_ev l0 l1 a2).rounds
  unfold match_Run.f at h
  by_cases hd : (∀ x ∈ l0, x.f2.size ≤ maxLen) ∧ (∀ x ∈ l1, x.f3.size ≤ maxLen) ∧ l1.length ≤ 1000000 ∧ l0.length ≤ 1000000
  case neg => rw [if_neg hd] at h; simp at h
  rw [if_pos hd] at h
  by_cases hc : checkOf l0 l1 a2 = 0
  · rw [if_pos hc] at h
    obtain ⟨rfl, rfl⟩ := Prod.mk.inj (Option.some.inj h)
    rw [hc] at hck
    exact run_core A0 c0 l0 A1 c1 l1 a2 w hr0 hc0 hr1 hc1 hd.1 hd.2.1 hd.2.2.1 hd.2.2.2 kk hck hT
  · rw [if_neg hc] at h
    obtain ⟨rfl, rfl⟩ := Prod.mk.inj (Option.some.inj h)
    exact run_wrong A0 c0 l0 A1 c1 l1 a2 w hr0 hc0 hr1 hc1 _ hc kk hck hT
end Go.Proofs.YtinfcbfdeacllaaDoor.P

/- The contract of match.Right. -/
namespace Go.Proofs.YtinfcbfdeacllaaDoor.P
open Go.RowKit Go.Proofs.YtinfcbfdeacllaaDoorW.PrintWords Go.Proofs.YtinfcbfdeacllaaDoorW.PrintLast Go.Proofs.YtinfcbfdeacllaaDoorW.PrintMore Go.Maps Go.ChangeShapes Go.WideShapes Go.WideMaps
set_option linter.unusedVariables false
set_option linter.unusedSimpArgs false
/-! ### What Right computes -/
def free (u : List Bool) (z : Int) : Bool := decide (0 ≤ z) && decide (z < u.length) && !rdOf false u z
def takeAll : List Bool → List Int → Option (List Bool)
  | u, [] => some u
  | u, z :: r => if free u z = true then takeAll (u.set z.toNat true) r else none
def sortedB (zs : List Int) : Bool := (List.range zs.length).all (fun i => i == 0 || decide (rd zs ((i : Int) - 1) ≤ rd zs (i : Int)))
def okAt (lines : List S50) (m : List S54) (k : Nat) : Bool :=
  decide (0 ≤ (rd_T54 m (k : Int)).f0) && decide ((rd_T54 m (k : Int)).f0 < lines.length) && (k == 0 || decide ((rd_T54 m ((k : Int) - 1)).f0 < (rd_T54 m (k : Int)).f0)) && decide ((rd_T54 m (k : Int)).f1.length ≠ 0) && sortedB (rd_T54 m (k : Int)).f1
def amts (books : List S52) (zs : List Int) : List Int := zs.map (fun z => (rd_T52 books z).f2)
def sumAt (lines : List S50) (books : List S52) (x : S54) : Bool := decide (i64ok (amts books x.f1).sum) && decide ((amts books x.f1).sum = (rd_T50 lines x.f0).f1)
def rightFrom (lines : List S50) (books : List S52) (m : List S54) : Nat → Nat → List Bool → Bool
  | 0, _, _ => true
  | c + 1, k, u => if okAt lines m k = true then (match takeAll u (rd_T54 m (k : Int)).f1 with | none => false | some u' => if sumAt lines books (rd_T54 m (k : Int)) = true then rightFrom lines books m c (k + 1) u' else false) else false
def match_Right.f (lines : List S50) (books : List S52) (m : List S54) : Option Bool :=
  if (∀ x ∈ m, x.f1.length ≤ 9223372036854775807) ∧ (∀ b ∈ books, i64ok b.f2) ∧ m.length ≤ 1000000 ∧ books.length ≤ 1000000 then some (rightFrom lines books m m.length 0 (List.replicate books.length false)) else none

theorem takeAll_len : ∀ {u u' : List Bool} {zs : List Int}, takeAll u zs = some u' → u'.length = u.length
  | u, u', [], h => by cases h; rfl
  | u, u', z :: r, h => by
    unfold takeAll at h
    split at h
    · rw [takeAll_len h, List.length_set]
    · cases h
theorem takeAll_snoc (u : List Bool) (zs : List Int) (z : Int) : takeAll u (zs ++ [z]) = (takeAll u zs).bind (fun u1 => if free u1 z = true then some (u1.set z.toNat true) else none) := by
  induction zs generalizing u with
  | nil => simp [takeAll]
  | cons y r ih =>
    show (if free u y = true then takeAll (u.set y.toNat true) (r ++ [z]) else none) = _
    show _ = (if free u y = true then takeAll (u.set y.toNat true) r else none).bind _
    by_cases h : free u y = true
    · rw [if_pos h, if_pos h]; exact ih _
    · rw [if_neg h, if_neg h]; rfl
theorem takeAll_pre {u : List Bool} {a b : List Int} (h : takeAll u a = none) : takeAll u (a ++ b) = none := by
  induction a generalizing u with
  | nil => cases h
  | cons y r ih =>
    show (if free u y = true then takeAll (u.set y.toNat true) (r ++ b) else none) = none
    have h' : (if free u y = true then takeAll (u.set y.toNat true) r else none) = none := h
    by_cases hf : free u y = true
    · rw [if_pos hf] at h' ⊢; exact ih h'
    · rw [if_neg hf]
theorem count_set {u : List Bool} {i : Nat} (h : i < u.length) (hf : u[i] = false) : (u.set i true).count false + 1 = u.count false := by
  induction u generalizing i with
  | nil => simp at h
  | cons b r ih =>
    cases i with
    | zero =>
      have : b = false := hf
      subst this
      simp
    | succ i =>
      have := ih (i := i) (by simpa using h) (by simpa using hf)
      simp only [List.set_cons_succ, List.count_cons]
      omega
theorem takeAll_count : ∀ {zs : List Int} {u u' : List Bool}, takeAll u zs = some u' → zs.length ≤ u.count false
  | [], _, _, _ => Nat.zero_le _
  | z :: r, u, u', h => by
    unfold takeAll at h
    split at h
    · rename_i hf
      unfold free at hf
      simp at hf
      have hz : z.toNat < u.length := by omega
      have := takeAll_count h
      have hg : u[z.toNat] = false := by
        have := hf.2
        simpa [rdOf, hz] using this
      have := count_set hz hg
      simp
      omega
    · cases h
theorem takeAll_le {zs : List Int} {u u' : List Bool} (h : takeAll u zs = some u') : zs.length ≤ u.length := Nat.le_trans (takeAll_count h) List.count_le_length
theorem w64r {x : Int} (h0 : -9223372036854775808 ≤ x) (h1 : x ≤ 9223372036854775807) : wrap64 x = x := by unfold wrap64; omega
theorem sorted_l0 (zs : List Int) (hz : zs.length ≤ 9223372036854775807) : ∀ i : Nat, i < zs.length → Ev (fun k => slices_IsSorted_int_int.l0 k zs (i : Int)) ((List.range (i + 1)).all (fun i => i == 0 || decide (rd zs ((i : Int) - 1) ≤ rd zs (i : Int))))
  | 0, h => Ev.step (fun k => slices_IsSorted_int_int.l0.eq_2 _ _ k) (by simp only [if_neg (show ¬ ((0 : Nat) : Int) > 0 by omega)]; exact Ev.now _)
  | i + 1, h => by
    have ih := sorted_l0 zs hz i (by omega)
    have hw : wrap64 (((i + 1 : Nat) : Int) - 1) = (i : Int) := by rw [w64r (by omega) (by omega)]; omega
    refine Ev.step (fun k => slices_IsSorted_int_int.l0.eq_2 _ _ k) ?_
    simp only [if_pos (show ((i + 1 : Nat) : Int) > 0 by omega), if_pos (show (0 : Int) ≤ ((i + 1 : Nat) : Int) by omega), if_pos (show ((i + 1 : Nat) : Int) < (zs.length : Int) by omega), hw, if_pos (show (0 : Int) ≤ (i : Int) by omega), if_pos (show (i : Int) < (zs.length : Int) by omega)]
    have hl : cmp_Less_int.f (rd zs ((i + 1 : Nat) : Int)) (rd zs (i : Int)) = some (decide (rd zs ((i + 1 : Nat) : Int) < rd zs (i : Int))) := by
      unfold cmp_Less_int.f cmp_isNaN_int.f
      simp
    simp only [hl, Option.bind_some]
    rw [List.range_succ, List.all_append]
    have e : ((i + 1 : Nat) : Int) - 1 = (i : Int) := by omega
    by_cases hc : rd zs ((i + 1 : Nat) : Int) < rd zs (i : Int)
    · simp only [decide_eq_true hc, if_true]
      have : decide (rd zs (((i + 1 : Nat) : Int) - 1) ≤ rd zs ((i + 1 : Nat) : Int)) = false := decide_eq_false (by rw [e]; omega)
      simp only [List.all_cons, List.all_nil, this, Bool.or_false, Bool.and_true]
      have h0 : ((i + 1) == 0) = false := rfl
      rw [h0, Bool.and_false]
      exact Ev.now _
    · simp only [decide_eq_false hc, Bool.false_eq_true, if_false]
      have : decide (rd zs (((i + 1 : Nat) : Int) - 1) ≤ rd zs ((i + 1 : Nat) : Int)) = true := decide_eq_true (by rw [e]; omega)
      simp only [List.all_cons, List.all_nil, this, Bool.or_true, Bool.and_true]
      exact ih
theorem sorted_ev (zs : List Int) (hz : zs.length ≤ 9223372036854775807) (hp : zs.length ≠ 0) : Ev (fun k => slices_IsSorted_int_int.f k zs) (sortedB zs) := by
  unfold slices_IsSorted_int_int.f sortedB
  have hw : wrap64 ((zs.length : Int) - 1) = ((zs.length - 1 : Nat) : Int) := by rw [w64r (by omega) (by omega)]; omega
  simp only [hw]
  have := sorted_l0 zs hz (zs.length - 1) (by omega)
  rw [show zs.length - 1 + 1 = zs.length by omega] at this
  exact this
theorem madeBools0 (n : Nat) : (madeCells (Value.bool false).cells (n * 1)).toList = (List.replicate n false).map Value.bool := by
  refine List.ext_getElem (by simp [size_madeCells]) (fun i h1 h2 => ?_)
  simp [madeCells, Value.cells, Nat.mod_one]
/-- mark, on a row of bools known whole. -/
theorem mark_usd (ub : Nat) (u : List Bool) (z : Int) (w : World) (hu : w.heap[ub]? = some (.cells (u.map Value.bool).toArray 4 (0, 0))) (hl : u.length ≤ 1000000) :
    Calls Tryd.prog 33 #[.slice (some ⟨ub, 0, none⟩) u.length u.length, .int .i64 z] w fun e w' => (free u z = true ∧ e = .returned (.bool true) ∧ w' = w.setCell ⟨ub, z.toNat, none⟩ (.bool true)) ∨ (free u z = false ∧ e = .returned (.bool false) ∧ w' = w) := by
  by_cases h0 : z < 0
  · have d1 : decide (z < 0) = true := decide_eq_true h0
    have hf := Aside0.mk (show free u z = false by unfold free; rw [decide_eq_false (show ¬ 0 ≤ z by omega)]; simp)
    go_enter Tryd.func33, Tryd.ntmps33
    go_wp2
    go_ret
    exact .inr ⟨hf.out, rfl, rfl⟩
  · have d1 : decide (z < 0) = false := decide_eq_false h0
    have e0 : decide (0 ≤ z) = true := decide_eq_true (by omega)
    by_cases h1 : (u.length : Int) ≤ z
    · have d2 : decide ((u.length : Int) ≤ z) = true := decide_eq_true h1
      have hf := Aside0.mk (show free u z = false by unfold free; rw [decide_eq_false (show ¬ z < (u.length : Int) by omega)]; simp)
      go_enter Tryd.func33, Tryd.ntmps33
      go_wp2
      go_ret
      exact .inr ⟨hf.out, rfl, rfl⟩
    · have d2 : decide ((u.length : Int) ≤ z) = false := decide_eq_false h1
      have p0 : 0 ≤ z := by omega
      have p1 : z < (u.length : Int) := by omega
      have hc : w.cell? ⟨ub, z.toNat, none⟩ = some (.bool (rdOf false u z)) := by
        rw [cell_of_row w ub z.toNat _ _ _ hu]
        have : z.toNat < u.length := by omega
        simp [rdOf, List.getD, this]
      have hfz := blk_frozen hu z.toNat
      have hf := Aside0.mk (show free u z = !rdOf false u z by unfold free; rw [e0, decide_eq_true p1]; simp)
      cases hb : rdOf false u z
      · rw [hb] at hc hf
        go_enter Tryd.func33, Tryd.ntmps33
        go_wp2
        go_ret
        exact .inl ⟨hf.out, rfl, rfl⟩
      · rw [hb] at hc hf
        go_enter Tryd.func33, Tryd.ntmps33
        go_wp2
        go_ret
        exact .inr ⟨hf.out, rfl, rfl⟩
theorem amts_ok {books : List S52} (h : ∀ b ∈ books, i64ok b.f2) (zs : List Int) : ∀ y ∈ amts books zs, i64ok y := by
  intro y hy
  obtain ⟨z, _, rfl⟩ := List.mem_map.1 hy
  unfold rd_T52
  by_cases hz : z.toNat < books.length
  · rw [show books.getD z.toNat z52 = books[z.toNat] by simp [hz]]
    exact h _ (List.getElem_mem hz)
  · rw [show books.getD z.toNat z52 = z52 by simp [hz]]
    decide
set_option maxHeartbeats 16000000 in
set_option maxRecDepth 100000 in
theorem match_Right.calls (A0 : Option Addr) (c0 : Nat) (l0 : List S50) (A1 : Option Addr) (c1 : Nat) (l1 : List S52) (A2 : Option Addr) (c2 : Nat) (l2 : List S54) (r : Bool) (w : World) (hr0 : Kd.C k50 w A0 l0.length l0) (hc0 : l0.length ≤ c0) (hr1 : Kd.C k52 w A1 l1.length l1) (hc1 : l1.length ≤ c1) (hr2 : Kd.C k54 w A2 l2.length l2) (hc2 : l2.length ≤ c2) (h : match_Right.f l0 l1 l2 = some r) :
    Calls Tryd.prog 20 #[.slice A0 l0.length c0, .slice A1 l1.length c1, .slice A2 l2.length c2] w fun e w' => e = .returned (.bool r) ∧ Below w.heap.size w w' := by
  unfold match_Right.f at h
  by_cases hd : (∀ x ∈ l2, x.f1.length ≤ 9223372036854775807) ∧ (∀ b ∈ l1, i64ok b.f2) ∧ l2.length ≤ 1000000 ∧ l1.length ≤ 1000000
  case neg => rw [if_neg hd] at h; simp at h
  rw [if_pos hd] at h
  obtain ⟨hx1, hx2, hx3, hx4⟩ := hd
  have HRS := Aside0.mk (Option.some.inj h)
  clear h
  have hu50 := Tryd.underlying50
  have hu52 := Tryd.underlying52
  have hu54 := Tryd.underlying54
  obtain ⟨i0, hi, hz0, hz1, hz2⟩ := info_parts info3
  obtain ⟨i4, hi4, hz40, hz41, hz42⟩ := info_parts info4
  have HC50 := Aside0.mk (show ∀ W, Below w.heap.size w W → Kd.C k50 W A0 l0.length l0 from fun W hW => Kd.C_below hr0 hW)
  have HC52 := Aside0.mk (show ∀ W, Below w.heap.size w W → Kd.C k52 W A1 l1.length l1 from fun W hW => Kd.C_below hr1 hW)
  have HC54 := Aside0.mk (show ∀ W, Below w.heap.size w W → Kd.C k54 W A2 l2.length l2 from fun W hW => Kd.C_below hr2 hW)
  have HR2 := Aside0.mk hr2
  clear hr0 hr1 hr2
  have hb2 : (l2.length : Int) ≤ 1000000 := by omega
  go_enter Tryd.func20, Tryd.ntmps20
  go_wp2_with (first | (at_make; refine wpList_make_full _ rfl _ _ 59 rfl w.heap.size 4 i4 (.bool false) 1 Tryd.underlying59 hi4 hz40 hz41 .i64 .i64 (l1.length : Int) (l1.length : Int) l1.length rfl rfl rfl rfl (by rw [hz42]; omega) (by unfold maxLen; omega) (Nat.le_refl _) ?_; intro w2 hown2 hg2))
  have U2 : w2.heap[w.heap.size]? = some (.cells ((List.replicate l1.length false).map Value.bool).toArray 4 (0, 0)) := by
    rcases hown2.2 with ⟨h, _⟩ | ⟨g, cap, cur, h, _, hh, _, _, hcs, ht⟩
    · cases h
    · injection h with h1 h2 h3
      obtain rfl : g = w.heap.size := by simpa using h1.symm
      rw [hh]
      rw [List.take_of_length_le (by simp [hcs, ← h3]), madeBools0] at ht
      rw [← ht]
  have HB2 := Aside0.mk (show Below w.heap.size w w2 from (Below.refl _ _).grown hg2 (Nat.le_refl _) (fun k e => by cases e))
  have n2 : w.heap.size < w2.heap.size := (hown2.lt _ rfl).2
  have HU2 := Aside0.mk U2
  clear hown2 hg2 U2
  obtain ⟨ub, hub⟩ : ∃ ub, w.heap.size = ub := ⟨_, rfl⟩
  rw [hub] at HU2 n2 HB2 ⊢
  rw [hub] at HC50 HC52 HC54
  go_loopw [8, 9, 10, 12, 13, 14, 20, 21, 22, 23, 24, 25, 26, 27, 28, 29, 30, 31, 32, 33, 34, 35, 36, 37, 38, 39, 40, 41, 42, 43, 44, 45, 46, 47, 48, 49, 50, 51, 52, 53, 54, 55, 56, 57, 58, 59, 60, 61, 62, 63, 64, 65, 66, 67, 68, 69, 70, 71, 72, 73, 74, 75, 76, 77, 78, 79, 80, 81, 82, 83, 84, 85, 86, 87, 88, 89, 90, 91, 92, 93, 94, 95, 96, 97, 98, 99] (fun _ _ _ _ _ _ v20 _ _ _ _ _ _ _ _ _ _ _ _ _ _ _ _ _ _ _ _ _ _ _ _ _ _ _ _ _ _ _ _ _ _ _ _ _ _ _ _ _ _ _ _ _ _ _ _ _ _ _ _ _ _ _ _ _ _ _ _ _ _ _ _ _ _ _ _ _ _ _ _ _ _ _ _ _ _ _ wr => ∃ (k : Nat) (u : List Bool), k ≤ l2.length ∧ v20 = .int .i64 k ∧ Aside0 (rightFrom l0 l1 l2 (l2.length - k) k u = r) ∧ Aside0 (Below ub w wr) ∧ Aside0 (u.length = l1.length ∧ wr.heap[ub]? = some (.cells (u.map Value.bool).toArray 4 (0, 0)))) (fun _ _ _ _ _ _ v20 _ _ _ _ _ _ _ _ _ _ _ _ _ _ _ _ _ _ _ _ _ _ _ _ _ _ _ _ _ _ _ _ _ _ _ _ _ _ _ _ _ _ _ _ _ _ _ _ _ _ _ _ _ _ _ _ _ _ _ _ _ _ _ _ _ _ _ _ _ _ _ _ _ _ _ _ _ _ _ _ => l2.length - (intOf v20).toNat)
  case atStart => exact ⟨0, List.replicate l1.length false, Nat.zero_le _, rfl, HRS, HB2, ⟨by simp, HU2.out⟩⟩
  case round =>
    clear HU2 HB2 HRS
    obtain ⟨k, u, hk, rfl, HR, HB, HU⟩ := hrel
    by_cases hlt : k < l2.length
    · obtain ⟨ad, A3, c3, e, q0, q1, q2, q3⟩ := at_T54 HR2.out (k : Int) (by omega) (by omega)
      have Q3 := Aside0.mk (show ∀ W, Below ub w W → Kd.C (Kd.int .i64) W A3 (rd_T54 l2 (k : Int)).f1.length (rd_T54 l2 (k : Int)).f1 from fun W hW => Kd.C_below q3 (by rw [hub]; exact hW))
      replace q0 := (HB.out.cell (by rw [← hub]; exact World.block_lt_of_cell? w _ q0)).trans q0
      replace q1 := (HB.out.cell (by rw [← hub]; exact World.block_lt_of_cell? w _ q1)).trans q1
      cases e
      rw [Int.toNat_natCast] at q0 q1
      have d1 : decide ((k : Int) < (l2.length : Int)) = true := decide_eq_true (by omega)
      have d2 : decide (k < l2.length) = true := decide_eq_true hlt
      have p0 : (0 : Int) ≤ (k : Int) := by omega
      have p1 : (k : Int) < (l2.length : Int) := by omega
      go_upto_region 5 with (fail)
      refine with_world (P := fun x => Code.wp _ _ _ _ x) _ ?_
      intro w3 hw3
      have HB3 := Aside0.mk (show Below ub w w3 by rw [hw3]; exact HB.out.alloc (by have := HB.out.size; omega) _)
      have BS3 : w3.heap[wr.heap.size]? = some (.cells #[.int .i64 (rd_T54 l2 (k : Int)).f0, .slice A3 (rd_T54 l2 (k : Int)).f1.length c3] 54 (0, 0)) := by rw [hw3]; exact blk_new wr _
      have HU3 := Aside0.mk (show u.length = l1.length ∧ w3.heap[ub]? = some (.cells (u.map Value.bool).toArray 4 (0, 0)) by rw [hw3]; exact ⟨HU.out.1, blk_alloc HU.out.2 _⟩)
      have H23 := Aside0.mk (Q3.out w3 HB3.out)
      have subk : wr.heap.size ≠ ub := by have := (Array.getElem?_eq_some_iff.1 HU.out.2).1; omega
      have snle := HB.out.size
      obtain ⟨sn, hsn⟩ : ∃ sn, wr.heap.size = sn := ⟨_, rfl⟩
      rw [hsn] at BS3 subk snle ⊢
      clear hw3 hsn HB HU
      obtain ⟨x, hx⟩ : ∃ x, rd_T54 l2 (k : Int) = x := ⟨_, rfl⟩
      have HX := Aside0.mk hx
      have hxl : x.f1.length ≤ 9223372036854775807 := by
        rw [← hx]; exact hx1 _ (by rw [show rd_T54 l2 (k : Int) = l2[k] by simp [rd_T54, hlt]]; exact List.getElem_mem hlt)
      rw [hx] at BS3 H23 Q3 q0 q1 q2 ⊢
      clear hx
      have b0 := (blk_cell BS3 0).trans rfl
      have b1 := (blk_cell BS3 1).trans rfl
      have HQ2 := Aside0.mk q2
      clear q0 q1 q2 q3
      go_cut [25, 26, 27, 28, 29, 30, 31, 32, 33, 34, 35, 36, 37, 38, 39, 40, 41, 42, 43, 44, 45, 46, 47, 48, 49, 50, 51, 52, 53, 54, 55, 56, 57, 58, 59, 60, 61] (fun _ _ _ _ _ _ _ _ _ _ _ _ _ _ _ _ _ _ _ _ _ _ _ _ _ _ _ _ _ _ _ _ _ _ _ _ v61 wc => v61 = .bool (!okAt l0 l2 k) ∧ Drawn0 w3 wc)
      case first =>
        have hd0 : Drawn0 w3 w3 := Drawn0.refl _
        by_cases g1 : x.f0 < 0
        · have hok := Aside0.mk (show okAt l0 l2 k = false by unfold okAt; rw [HX.out, decide_eq_false (show ¬ 0 ≤ x.f0 by omega)]; simp)
          have e1 : decide (x.f0 < 0) = true := decide_eq_true g1
          go_quiet (fail)
          go_wp2
          go_meet
          case rel => exact ⟨by rw [hok.out] <;> rfl, by repeat (first | exact Drawn0.refl _ | apply Drawn0.step)⟩
        · have e1 : decide (x.f0 < 0) = false := decide_eq_false g1
          by_cases g2 : (l0.length : Int) ≤ x.f0
          · have hok := Aside0.mk (show okAt l0 l2 k = false by unfold okAt; rw [HX.out, decide_eq_false (show ¬ x.f0 < (l0.length : Int) by omega)]; simp)
            have e2 : decide ((l0.length : Int) ≤ x.f0) = true := decide_eq_true g2
            go_quiet (fail)
            go_wp2
            go_meet
            case rel => exact ⟨by rw [hok.out] <;> rfl, by repeat (first | exact Drawn0.refl _ | apply Drawn0.step)⟩
          · have e2 : decide ((l0.length : Int) ≤ x.f0) = false := decide_eq_false g2
            by_cases g3 : k = 0
            · have G3 := Aside0.mk (show (k == 0) = true from beq_iff_eq.mpr g3)
              have e3 : decide ((0 : Int) < (k : Int)) = false := decide_eq_false (by omega)
              have e3' : decide (0 < k) = false := decide_eq_false (by omega)
              clear g3
              by_cases g4 : x.f1.length = 0
              · have hok := Aside0.mk (show okAt l0 l2 k = false by unfold okAt; rw [HX.out, decide_eq_false (show ¬ x.f1.length ≠ 0 by omega)]; simp)
                have e4 : ((x.f1.length : Int) == 0) = true := beq_iff_eq.mpr (by omega)
                have e5 : (x.f1.length == 0) = true := beq_iff_eq.mpr g4
                go_quiet (fail)
                go_wp2
                go_meet
                case rel => exact ⟨by rw [hok.out] <;> rfl, by repeat (first | exact Drawn0.refl _ | apply Drawn0.step)⟩
              · have e4 : ((x.f1.length : Int) == 0) = false := beq_eq_false_iff_ne.mpr (by omega)
                have e5 : (x.f1.length == 0) = false := beq_eq_false_iff_ne.mpr g4
                obtain ⟨kk, hsk⟩ := (sorted_ev x.f1 hxl g4).rounds
                have HSK := Aside0.mk hsk
                clear hsk
                have hok := Aside0.mk (show okAt l0 l2 k = sortedB x.f1 by unfold okAt; rw [HX.out, decide_eq_true (show 0 ≤ x.f0 by omega), decide_eq_true (show x.f0 < (l0.length : Int) by omega), G3.out, Bool.true_or, decide_eq_true (show x.f1.length ≠ 0 from g4)]; simp)
                go_quiet (first | (go_at_call 38; refine (slices_IsSorted_int_int.calls kk A3 c3 x.f1 (sortedB x.f1) _ (Kd.C_drewN H23.out _) HQ2.out HSK.out).mono ?_; rintro e w' ⟨rfl, ⟨nd, rfl⟩⟩; (try first | exact ⟨rfl, _, World.drewN_drewN _ _ _⟩ | exact ⟨rfl, _, Eq.trans (World.drewN_drewN _ _ _) (congrArg (World.drewN _) (Nat.add_assoc _ _ _))⟩)))
                go_wp2
                go_meet
                case rel => exact ⟨by rw [hok.out] <;> rfl, by repeat (first | exact Drawn0.refl _ | apply Drawn0.step)⟩
            · have e3 : decide ((0 : Int) < (k : Int)) = true := decide_eq_true (by omega)
              have e3' : decide (0 < k) = true := decide_eq_true (by omega)
              obtain ⟨ad', A4, c4, e', w0, w1, _, _⟩ := at_T54 (HC54.out w3 HB3.out) ((k : Int) - 1) (by omega) (by omega)
              obtain rfl : ad = ad' := Option.some.inj e'
              rw [show ((k : Int) - 1).toNat = k - 1 by omega] at w0 w1
              have p3 : (0 : Int) ≤ (k : Int) - 1 := by omega
              have p4 : (k : Int) - 1 < (l2.length : Int) := by omega
              obtain ⟨y, hy⟩ : ∃ y, (rd_T54 l2 ((k : Int) - 1)).f0 = y := ⟨_, rfl⟩
              rw [hy] at w0
              have HY := Aside0.mk hy
              clear hy w1
              by_cases g5 : x.f0 ≤ y
              · have hok := Aside0.mk (show okAt l0 l2 k = false by unfold okAt; rw [HX.out, HY.out, show (k == 0) = false from beq_eq_false_iff_ne.mpr g3, decide_eq_false (show ¬ y < x.f0 by omega)]; simp)
                have e6 : decide (x.f0 ≤ y) = true := decide_eq_true g5
                go_quiet (fail)
                go_wp2
                go_meet
                case rel => exact ⟨by rw [hok.out] <;> rfl, by repeat (first | exact Drawn0.refl _ | apply Drawn0.step)⟩
              · have e6 : decide (x.f0 ≤ y) = false := decide_eq_false g5
                by_cases g4 : x.f1.length = 0
                · have hok := Aside0.mk (show okAt l0 l2 k = false by unfold okAt; rw [HX.out, decide_eq_false (show ¬ x.f1.length ≠ 0 by omega)]; simp)
                  have e4 : ((x.f1.length : Int) == 0) = true := beq_iff_eq.mpr (by omega)
                  have e5 : (x.f1.length == 0) = true := beq_iff_eq.mpr g4
                  go_quiet (fail)
                  go_wp2
                  go_meet
                  case rel => exact ⟨by rw [hok.out] <;> rfl, by repeat (first | exact Drawn0.refl _ | apply Drawn0.step)⟩
                · have e4 : ((x.f1.length : Int) == 0) = false := beq_eq_false_iff_ne.mpr (by omega)
                  have e5 : (x.f1.length == 0) = false := beq_eq_false_iff_ne.mpr g4
                  obtain ⟨kk, hsk⟩ := (sorted_ev x.f1 hxl g4).rounds
                  have HSK := Aside0.mk hsk
                  clear hsk
                  have hok := Aside0.mk (show okAt l0 l2 k = sortedB x.f1 by unfold okAt; rw [HX.out, decide_eq_true (show 0 ≤ x.f0 by omega), decide_eq_true (show x.f0 < (l0.length : Int) by omega), HY.out, decide_eq_true (show y < x.f0 by omega), Bool.or_true, decide_eq_true (show x.f1.length ≠ 0 from g4)]; simp)
                  go_quiet (first | (go_at_call 38; refine (slices_IsSorted_int_int.calls kk A3 c3 x.f1 (sortedB x.f1) _ (Kd.C_drewN H23.out _) HQ2.out HSK.out).mono ?_; rintro e w' ⟨rfl, ⟨nd, rfl⟩⟩; (try first | exact ⟨rfl, _, World.drewN_drewN _ _ _⟩ | exact ⟨rfl, _, Eq.trans (World.drewN_drewN _ _ _) (congrArg (World.drewN _) (Nat.add_assoc _ _ _))⟩)))
                  go_wp2
                  go_meet
                  case rel => exact ⟨by rw [hok.out] <;> rfl, by repeat (first | exact Drawn0.refl _ | apply Drawn0.step)⟩
      case rest =>
        obtain ⟨rfl, ⟨nn, rfl⟩⟩ := hcut
        have hrr : rightFrom l0 l1 l2 (l2.length - k) k u = (if okAt l0 l2 k = true then (match takeAll u x.f1 with | none => false | some u' => if sumAt l0 l1 x = true then rightFrom l0 l1 l2 (l2.length - (k + 1)) (k + 1) u' else false) else false) := by
          rw [show l2.length - k = (l2.length - (k + 1)) + 1 by omega]
          show (if okAt l0 l2 k = true then (match takeAll u (rd_T54 l2 (k : Int)).f1 with | none => false | some u' => if sumAt l0 l1 (rd_T54 l2 (k : Int)) = true then rightFrom l0 l1 l2 (l2.length - (k + 1)) (k + 1) u' else false) else false) = _
          rw [HX.out]
        have HRR := Aside0.mk (hrr.symm.trans HR.out)
        clear hrr HR
        obtain ⟨ok, hok⟩ : ∃ b, okAt l0 l2 k = b := ⟨_, rfl⟩
        have HOK := Aside0.mk hok
        rw [hok] at HRR ⊢
        clear hok
        cases ok
        · have hr : r = false := HRR.out.symm
          subst hr
          go_wp2
          go_ret
          exact ⟨rfl, pw_below_drewN (hub ▸ HB3.out) _⟩
        · have hrng : (0 ≤ x.f0 ∧ x.f0 < (l0.length : Int)) := by
            have := HOK.out
            unfold okAt at this
            rw [HX.out] at this
            simp at this
            exact ⟨this.1.1.1.1, this.1.1.1.2⟩
          have b0' : (w3.drewN nn).cell? ⟨sn, 0, none⟩ = some (.int .i64 x.f0) := b0
          have b1' : (w3.drewN nn).cell? ⟨sn, 1, none⟩ = some (.slice A3 x.f1.length c3) := b1
          obtain ⟨w4, hw4⟩ : ∃ w4, w3.drewN nn = w4 := ⟨_, rfl⟩
          have HB4 := Aside0.mk (show Below ub w w4 by rw [← hw4]; exact pw_below_drewN HB3.out _)
          have HU4 := Aside0.mk (show u.length = l1.length ∧ w4.heap[ub]? = some (.cells (u.map Value.bool).toArray 4 (0, 0)) by rw [← hw4]; exact HU3.out)
          have BS4 : w4.heap[sn]? = some (.cells #[.int .i64 x.f0, .slice A3 x.f1.length c3] 54 (0, 0)) := by rw [← hw4]; exact BS3
          rw [hw4] at b0' b1' ⊢
          clear hw4 b0 b1 BS3 HU3 HB3 H23
          have hxl' : (x.f1.length : Int) ≤ 9223372036854775807 := by omega
          have sn4 : sn < w4.heap.size := (Array.getElem?_eq_some_iff.1 BS4).1
          go_wp2
          go_loopw [10, 12, 65, 66, 67, 68, 69, 70, 71, 72, 73, 74, 75, 76, 77, 78, 79, 80, 81] (fun v10 _ v65 _ _ _ _ _ _ _ _ _ _ _ _ _ _ _ _ wi => ∃ (j : Nat) (u1 : List Bool), j ≤ x.f1.length ∧ v65 = .int .i64 j ∧ Aside0 (takeAll u (x.f1.take j) = some u1) ∧ Aside0 (wi.ownsRow w4.heap.size 3 1 v10 (amts l1 (x.f1.take j)).length ((amts l1 (x.f1.take j)).map (Value.int .i64))) ∧ Aside0 (But (fun q => q = ub) w4 wi) ∧ Aside0 (u1.length = l1.length ∧ wi.heap[ub]? = some (.cells (u1.map Value.bool).toArray 4 (0, 0)))) (fun _ _ v65 _ _ _ _ _ _ _ _ _ _ _ _ _ _ _ _ _ => x.f1.length - (intOf v65).toNat)
          case atStart => exact ⟨0, u, Nat.zero_le _, rfl, ⟨rfl⟩, ⟨World.ownsRow_nil _ _ _ _⟩, ⟨But.refl _ _⟩, HU4⟩
          case round =>
            obtain ⟨j, u1, hj, rfl, HTK, HOW, HBI, HUI⟩ := hrel
            have BSI := HBI.out.obj BS4 subk
            have HBW := Aside0.mk (HBI.out.below HB4.out (by have := HB4.out.size; omega) (fun q e => by omega))
            have hal : (amts l1 (x.f1.take j)).length = j := by unfold amts; simp; omega
            by_cases hjl : j < x.f1.length
            · obtain ⟨z, hz⟩ : ∃ z, YtinfcbfdeacllaaDoorW.PrintWords.rd x.f1 (j : Int) = z := ⟨_, rfl⟩
              obtain ⟨ag, eg, hc⟩ := Kd.at_int (Q3.out wr HBW.out) (j : Int) (by omega) (by omega)
              rw [Int.toNat_natCast, hz] at hc
              cases eg
              have htk : x.f1.take (j + 1) = x.f1.take j ++ [z] := by
                rw [List.take_add_one, List.getElem?_eq_getElem hjl, ← hz]
                simp [YtinfcbfdeacllaaDoorW.PrintWords.rd, hjl]
              have HTK2 := Aside0.mk htk
              clear htk hz
              have i1 : decide ((j : Int) < (x.f1.length : Int)) = true := decide_eq_true (by omega)
              have i2 : decide (j < x.f1.length) = true := decide_eq_true hjl
              have i3 : (0 : Int) ≤ (j : Int) := by omega
              have i4 : (j : Int) < (x.f1.length : Int) := by omega
              have hmk := mark_usd ub u1 z wr HUI.out.2 (by have := HUI.out.1; omega)
              rw [HUI.out.1] at hmk
              have HMK := Aside0.mk hmk
              clear hmk
              obtain ⟨fr, hfr⟩ : ∃ b, free u1 z = b := ⟨_, rfl⟩
              have HFR := Aside0.mk hfr
              cases fr
              · have hr : r = false := by
                  have h1 : takeAll u (x.f1.take (j + 1)) = none := by rw [HTK2.out, takeAll_snoc, HTK.out]; simp [hfr]
                  have h2 : takeAll u x.f1 = none := by
                    have := takeAll_pre (b := x.f1.drop (j + 1)) h1
                    rwa [List.take_append_drop] at this
                  have := HRR.out
                  rw [h2] at this
                  simpa using this.symm
                clear hfr
                subst hr
                go_wp2_with (first | (go_at_call 33; refine HMK.out.mono ?_; rintro e w' (⟨hf, _, _⟩ | ⟨_, rfl, rfl⟩) <;> first | (exact absurd (hf.symm.trans HFR.out) (by decide)) | skip))
                go_ret
                exact ⟨rfl, hub ▸ HBW.out⟩
              · have hzr : 0 ≤ z ∧ z < (l1.length : Int) := by
                  have := hfr
                  unfold free at this
                  simp at this
                  rw [HUI.out.1] at this
                  omega
                clear hfr
                have HS1 := Aside0.mk (show But (fun q => q = ub) w4 (wr.setCell ⟨ub, z.toNat, none⟩ (.bool true)) from HBI.out.setCell rfl _)
                have HO1 := Aside0.mk (show (wr.setCell ⟨ub, z.toNat, none⟩ (.bool true)).ownsRow w4.heap.size 3 1 _ (amts l1 (x.f1.take j)).length ((amts l1 (x.f1.take j)).map (Value.int .i64)) from own_move HOW.out (fun q hq => Below.heap_setCell _ _ _ _ (by have := (HOW.out.lt q hq).1; have := (Array.getElem?_eq_some_iff.1 HU4.out.2).1; show q ≠ ub; omega)))
                have HU1 := Aside0.mk (show (u1.set z.toNat true).length = l1.length ∧ (wr.setCell ⟨ub, z.toNat, none⟩ (.bool true)).heap[ub]? = some (.cells ((u1.set z.toNat true).map Value.bool).toArray 4 (0, 0)) from ⟨by rw [List.length_set]; exact HUI.out.1, by rw [blk_set HUI.out.2]; simp [List.map_set]⟩)
                have HT1 := Aside0.mk (show takeAll u (x.f1.take (j + 1)) = some (u1.set z.toNat true) by rw [HTK2.out, takeAll_snoc, HTK.out]; simp [HFR.out])
                have hj1 : j + 1 ≤ 1000000 := by
                  have h1 := takeAll_le HT1.out
                  rw [List.length_take, HU4.out.1] at h1
                  omega
                have HB1 := Aside0.mk (show Below ub w (wr.setCell ⟨ub, z.toNat, none⟩ (.bool true)) from HBW.out.setCell (Nat.le_refl _) _)
                obtain ⟨ws, hws⟩ : ∃ ws, wr.setCell ⟨ub, z.toNat, none⟩ (.bool true) = ws := ⟨_, rfl⟩
                rw [hws] at HS1 HO1 HU1 HB1
                obtain ⟨ab, e52, y0, y1, y2, y3⟩ := at_T52 (HC52.out ws HB1.out) z hzr.1 hzr.2
                cases e52
                have hzz := hzr.1
                have hzz2 := hzr.2
                have HMT := Aside0.mk (HMK.out.mono (R' := fun e w' => e = .returned (.bool true) ∧ ws = w') (by
                  rintro e w' (⟨_, rfl, rfl⟩ | ⟨hf, _, _⟩)
                  · exact ⟨rfl, hws.symm⟩
                  · exact absurd (HFR.out.symm.trans hf) (by decide)))
                clear hws HOW HBI HTK HMK y0 y1 y3
                go_wp2_with (first | (go_at_call 33; refine HMT.out.mono ?_; rintro e w' ⟨rfl, rfl⟩) | (at_builtin; refine wpList_append_own_at _ rfl _ _ 42 rfl w4.heap.size 3 i0 (.int .i64 0) 1 8 Tryd.underlying42 hi hz0 hz1 hz2 rfl (by decide) _ _ _ rfl (HO1.out.alloc _) ⟨ws.heap.size, 0, none⟩ 1 1 [.int .i64 (rd_T52 l1 z).f2] rfl rfl (cell_one_new _ _ _) (ints_oneCell .i64 [(rd_T52 l1 z).f2]) (by unfold maxLen; omega) (by omega) (by have := HS1.out.size; simp; omega) ?_; intro v' w5 hown' hgrow hnil hloc; have HB5 := Aside0.mk ((HS1.out.alloc _).own hgrow (fun q e => (HO1.out.lt q e).1)); have HO5 := Aside0.mk hown'; have HU5 := Aside0.mk ((hgrow.block ub (by simp; have := (Array.getElem?_eq_some_iff.1 HU1.out.2).1; omega) (fun e => by have := (HO1.out.lt ub e.symm).1; have := (Array.getElem?_eq_some_iff.1 HU4.out.2).1; omega)).trans (blk_alloc HU1.out.2 _)); clear hown' hgrow hnil hloc))
                have ham : amts l1 (x.f1.take (j + 1)) = amts l1 (x.f1.take j) ++ [(rd_T52 l1 z).f2] := by rw [HTK2.out]; unfold amts; rw [List.map_append]; rfl
                refine ⟨⟨j + 1, u1.set z.toNat true, by omega, by go_num, HT1, ⟨?_⟩, HB5, ⟨by rw [List.length_set]; exact HUI.out.1, HU5.out⟩⟩, by simp [intOf]; omega⟩
                rw [ham, List.length_append, List.map_append]
                exact HO5.out
            · obtain rfl : j = x.f1.length := by omega
              have i1 : decide ((x.f1.length : Int) < (x.f1.length : Int)) = false := decide_eq_false (by omega)
              have i1' : decide (x.f1.length < x.f1.length) = false := decide_eq_false (by omega)
              rw [List.take_length] at HOW HTK hal
              have HRW := Aside0.mk (Row.of_own HOW.out)
              obtain ⟨Ag, cg, rfl⟩ := HRW.out.slice
              have hrr2 := HRR.out
              simp only [HTK.out, if_true] at hrr2
              have HR2' := Aside0.mk hrr2
              clear hrr2 HRR
              have hgl : (amts l1 x.f1).length ≤ 1000000 := by
                have h1 := takeAll_le HTK.out
                rw [HU4.out.1] at h1
                omega
              have hgo : ∀ y ∈ amts l1 x.f1, i64ok y := amts_ok hx2 _
              obtain ⟨gs, hgs⟩ : ∃ gs, amts l1 x.f1 = gs := ⟨_, rfl⟩
              have HSA := Aside0.mk (show sumAt l0 l1 x = (decide (i64ok gs.sum) && decide (gs.sum = (rd_T50 l0 x.f0).f1)) by unfold sumAt; rw [hgs])
              rw [hgs] at hal HRW HOW hgl hgo ⊢
              have HAL := Aside0.mk hal
              clear hgs hal
              obtain ⟨ac, e50, y0, y1, _, _⟩ := at_T50 (HC50.out wr HBW.out) x.f0 hrng.1 hrng.2
              cases e50
              have hr0 := hrng.1
              have hr1 := hrng.2
              have c0' := (blk_cell BSI 0).trans rfl
              obtain ⟨hcg, hfoot⟩ := HRW.out.foot
              have HFG := Aside0.mk (Kd.F_now hfoot)
              have HCG := Aside0.mk hcg
              clear hfoot
              by_cases hfit : i64ok gs.sum
              · have HNS := Aside0.mk (show num_Sum.f gs = some (gs.sum, true) by unfold num_Sum.f; rw [if_pos hgl, if_pos hgo, if_pos hfit])
                by_cases heq : gs.sum = (rd_T50 l0 x.f0).f1
                · have HSA2 := Aside0.mk (show sumAt l0 l1 x = true by rw [HSA.out, decide_eq_true hfit, decide_eq_true heq]; rfl)
                  have e3 : (gs.sum != (rd_T50 l0 x.f0).f1) = false := by rw [bne_eq_false_iff_eq]; exact heq
                  have HRF := Aside0.mk (show rightFrom l0 l1 l2 (l2.length - (k + 1)) (k + 1) u1 = r by have := HR2'.out; rw [HSA2.out] at this; simpa using this)
                  go_wp2_with (first | (go_at_call 39; refine (num_Sum.calls Ag cg gs _ _ _ HFG.out HCG.out HNS.out).mono ?_; rintro e w' ⟨rfl, ⟨nd, rfl⟩⟩))
                  refine ⟨⟨k + 1, u1, by omega, by go_num, HRF, ⟨pw_below_drewN HBW.out _⟩, ⟨HUI.out.1, HUI.out.2⟩⟩, by simp [intOf]; omega⟩
                · have HSA2 := Aside0.mk (show sumAt l0 l1 x = false by rw [HSA.out, decide_eq_false heq, Bool.and_false])
                  have e3 : (gs.sum != (rd_T50 l0 x.f0).f1) = true := by rw [bne_iff_ne]; exact heq
                  have hr : r = false := by have := HR2'.out; rw [HSA2.out] at this; simpa using this.symm
                  subst hr
                  go_wp2_with (first | (go_at_call 39; refine (num_Sum.calls Ag cg gs _ _ _ HFG.out HCG.out HNS.out).mono ?_; rintro e w' ⟨rfl, ⟨nd, rfl⟩⟩))
                  go_ret
                  exact ⟨rfl, hub ▸ pw_below_drewN HBW.out _⟩
              · have HNS := Aside0.mk (show num_Sum.f gs = some (0, false) by unfold num_Sum.f; rw [if_pos hgl, if_pos hgo, if_neg hfit])
                have HSA2 := Aside0.mk (show sumAt l0 l1 x = false by rw [HSA.out, decide_eq_false hfit, Bool.false_and])
                have hr : r = false := by have := HR2'.out; rw [HSA2.out] at this; simpa using this.symm
                subst hr
                go_wp2_with (first | (go_at_call 39; refine (num_Sum.calls Ag cg gs _ _ _ HFG.out HCG.out HNS.out).mono ?_; rintro e w' ⟨rfl, ⟨nd, rfl⟩⟩))
                go_ret
                exact ⟨rfl, hub ▸ pw_below_drewN HBW.out _⟩
    · obtain rfl : k = l2.length := by omega
      have d1 : decide ((l2.length : Int) < (l2.length : Int)) = false := decide_eq_false (by omega)
      have hr : r = true := by have := HR.out; rw [Nat.sub_self] at this; exact this.symm
      subst hr
      go_wp2
      go_ret
      exact ⟨rfl, hub ▸ HB.out⟩
end Go.Proofs.YtinfcbfdeacllaaDoor.P
