/- The contract of dims.Without: a loop over an iterator, whose closure calls a closure. -/
import Derived.Test.YtbljhfdmimmblaaPx0
import Derived.Test.YtbljhfdmimmblaaHandIns
import Derived.RangeFuncBox
import Derived.RangeFuncNested
import Derived.RangeFuncLeaves
import Derived.Shelf.Abstract
import Derived.WalkKit
import Derived.OwnWalkIn
import Derived.TacticsInMore
import Derived.LoopNIn
import Derived.LoopIn
import Derived.Maps.AppendAt
namespace Go.Proofs.Ytbljhfdmimmblaa.P
open Go.RowKit Go.Shelf Go.Proofs.YtbljhfdmimmblaaW.PrintWords Go.Proofs.YtbljhfdmimmblaaW.PrintLast Go.Proofs.YtbljhfdmimmblaaW.PrintMore
set_option linter.unusedVariables false
set_option linter.unusedSimpArgs false
attribute [local go_sem] Oper.semAt_some

def keepP (n : ByteArray) (x : S39) : Bool := x.f0.toList != n.toList
def dims_Without.f (l : List S39) (n : ByteArray) : Option (List S39) := if l.length ≤ 1000000 then some (l.filter (keepP n)) else none

set_option maxHeartbeats 1000000 in
theorem out_is_in (F : Fence) (n : Nat) (h36 : F.fn 36) (hro : F.round = none) (s name : ByteArray) (B0 : Nat) (W : World) (hc : W.cell? ⟨B0, 0, none⟩ = some (.string name)) :
    CallsIn F n Try.prog 36 #[.string s, .pointer (some ⟨B0, 0, none⟩)] W fun e W' => e = .returned (.bool (s.toList != name.toList)) ∧ W' = W := by
  refine callsIn_of_wp Try.func36 rfl h36 ?_ hro
  simp only [Try.ntmps36, List.size_toArray, List.length_cons, List.length_nil, Nat.reduceAdd, Nat.reduceSub, Array.replicate_succ, Array.replicate_zero, List.push_toArray, List.append_toArray, List.nil_append, List.cons_append]
  gi_wp2
  go_ret
  exact ⟨rfl, rfl⟩

set_option maxHeartbeats 1000000 in
theorem out_among_in (F : Fence) (n : Nat) (h35 : F.fn 35) (hro : F.round = none) (A : Option Addr) (len cap : Nat) (B0 : Nat) (w : World) :
    CallsIn F n Try.prog 35 #[.slice A len cap, .func (.func 36) #[] #[.pointer (some ⟨B0, 0, none⟩)]] w fun e w' =>
      e = .returned (.func (.func 44) #[] #[.pointer (some ⟨w.heap.size, 0, none⟩), .pointer (some ⟨w.heap.size + 1, 0, none⟩)]) ∧
      w' = (w.alloc (.cells #[.slice A len cap] 22)).alloc (.cells #[.func (.func 36) #[] #[.pointer (some ⟨B0, 0, none⟩)]] 51) := by
  refine callsIn_of_wp Try.func35 rfl h35 ?_ hro
  simp only [Try.ntmps35, List.size_toArray, List.length_cons, List.length_nil, Nat.reduceAdd, Nat.reduceSub, Array.replicate_succ, Array.replicate_zero, List.push_toArray, List.append_toArray, List.nil_append, List.cons_append]
  gi_wp2
  go_ret
  exact ⟨by simp, rfl⟩
/-- What a round keeps for the iterator: what lay below, and the boxes of the name and of the condition. -/
def KpOut (n₀ B0 B1 : Nat) (W W' : World) : Prop := Below n₀ W W' ∧ W'.heap[B0]? = W.heap[B0]? ∧ W'.heap[B1]? = W.heap[B1]?
theorem KpOut.refl (n₀ B0 B1 : Nat) (W : World) : KpOut n₀ B0 B1 W W := ⟨Below.refl _ _, rfl, rfl⟩
theorem KpOut.t {n₀ B0 B1 : Nat} {A B C : World} (h : KpOut n₀ B0 B1 A B) (k : KpOut n₀ B0 B1 B C) : KpOut n₀ B0 B1 A C := ⟨h.1.trans k.1, k.2.1.trans h.2.1, k.2.2.trans h.2.2⟩
/-- A fresh box, filled: nothing that lay has turned. -/
theorem grown_box (W : World) (o : Obj) (u v : Value) : W.grownBy (((W.alloc o).setCell ⟨W.heap.size, 0, none⟩ u).setCell ⟨W.heap.size, 1, none⟩ v) none :=
  ⟨rfl, rfl, rfl, by
    have h1 := (KeepsWalks.setCell (W.alloc o) ⟨W.heap.size, 0, none⟩ u).size
    have h2 := (KeepsWalks.setCell ((W.alloc o).setCell ⟨W.heap.size, 0, none⟩ u) ⟨W.heap.size, 1, none⟩ v).size
    have h3 : W.heap.size ≤ (W.alloc o).heap.size := by simp
    omega, fun k hk _ => by
    rw [Below.heap_setCell _ _ _ k (by simp; omega), Below.heap_setCell _ _ _ k (by simp; omega)]
    exact Below.heap_alloc _ _ _ hk⟩

set_option maxRecDepth 100000 in
set_option maxHeartbeats 4000000 in
theorem out_iter_in (F : Fence) (n : Nat) (h44 : F.fn 44) (h36 : F.fn 36) (hro : F.round = none) (hn : 2 ≤ n) (l Bl Bf B0 n₀ : Nat) (name : ByteArray) (A : Option Addr) (cap : Nat) (zs : List S39) (hlen : zs.length ≤ 1000000) (J Jx : List S39 → World → Prop)
    (hY : ∀ pre x W, J pre W → pre.length < zs.length → YieldAt F (n - 1) Try.prog l #[.agg #[.string x.f0, .string x.f1]] W fun e W' =>
      (e = .returned (.bool true) ∧ J (pre ++ [x]) W' ∧ KpOut n₀ B0 Bf W W') ∨ (e = .returned (.bool false) ∧ Jx (pre ++ [x]) W'))
    (W : World) (hJ : AbidesFrom W.heap.size J) (hB : n₀ ≤ W.heap.size) (hBf' : Bf < W.heap.size) (hB0' : B0 < W.heap.size)
    (hBl : W.cell? ⟨Bl, 0, none⟩ = some (.slice A zs.length cap)) (hBf : Boxed W Bf 51 (.func (.func 36) #[] #[.pointer (some ⟨B0, 0, none⟩)])) (hB0 : Boxed W B0 9 (.string name))
    (hc : ∀ j x, zs[j]? = some x → ∃ ad, A = some ad ∧ ad.block < n₀ ∧ W.cell? (ad.add (j * 2)) = some (.string x.f0) ∧ W.cell? ⟨(ad.add (j * 2)).block, (ad.add (j * 2)).off + 1, none⟩ = some (.string x.f1)) (h0 : J [] W) :
    CallsIn F n Try.prog 44 #[.func (.yield l) #[] #[], .pointer (some ⟨Bl, 0, none⟩), .pointer (some ⟨Bf, 0, none⟩)] W fun e W' => (∃ v, e = .returned v) ∧
      ((∃ ys, ys = zs.filter (keepP name) ∧ J ys W') ∨ (∃ pre, True ∧ Jx pre W')) := by
  have h1 : 1 ≤ n := by omega
  refine callsIn_of_wp Try.func44 rfl h44 ?_ hro
  simp only [Try.ntmps44, List.size_toArray, List.length_cons, List.length_nil, Nat.reduceAdd, Nat.reduceSub, Array.replicate_succ, Array.replicate_zero, List.push_toArray, List.append_toArray, List.nil_append, List.cons_append]
  gi_wp2
  gi_loopw [8] (fun i wr => ∃ k : Nat, k ≤ zs.length ∧ i = .int .i64 k ∧ J ((zs.take k).filter (keepP name)) wr ∧ AbidesFrom W.heap.size J ∧ KpOut n₀ B0 Bf W wr)
    (fun i _ => zs.length - (intOf i).toNat)
  case atStart => exact ⟨0, Nat.zero_le _, rfl, by simpa using h0, hJ, KpOut.refl _ _ _ _⟩
  case round =>
    obtain ⟨k, hk, rfl, hJs, hJA, hK⟩ := hrel
    by_cases hlt : k < zs.length
    · obtain ⟨x, hx⟩ : ∃ x, zs[k]? = some x := ⟨_, List.getElem?_eq_getElem hlt⟩
      obtain ⟨ad, rfl, hb, c1, c2⟩ := hc k x hx
      replace c1 := (hK.1.cell (p := ad.add (k * 2)) (by show (ad.add (k * 2)).block < n₀; rw [add_block]; exact hb)).trans c1
      replace c2 := (hK.1.cell (p := ⟨(ad.add (k * 2)).block, (ad.add (k * 2)).off + 1, none⟩) (by show (ad.add (k * 2)).block < n₀; rw [add_block]; exact hb)).trans c2
      have d1 : decide ((k : Int) < (zs.length : Int)) = true := decide_eq_true (by omega)
      have d2 : decide (k < zs.length) = true := decide_eq_true hlt
      have p0 : (0 : Int) ≤ (k : Int) := by omega
      have p1 : (k : Int) < (zs.length : Int) := by omega
      have bF : Boxed wr Bf 51 (.func (.func 36) #[] #[.pointer (some ⟨B0, 0, none⟩)]) := hK.2.2.trans hBf
      have bN : Boxed wr B0 9 (.string name) := hK.2.1.trans hB0
      obtain ⟨Wa, hWa⟩ : ∃ Wa, wr.alloc (.cells #[.string x.f0, .string x.f1] 39) = Wa := ⟨_, rfl⟩
      have hg : wr.grownBy Wa none := by rw [← hWa]; exact World.grownBy_alloc wr _ none
      have bFa : Boxed Wa Bf 51 (.func (.func 36) #[] #[.pointer (some ⟨B0, 0, none⟩)]) := by rw [← hWa]; exact bF.alloc _
      have bNa : Boxed Wa B0 9 (.string name) := by rw [← hWa]; exact bN.alloc _
      have cF := bFa.cell
      have cN := bNa.cell
      have hT : Wa.heap[wr.heap.size]? = some (.cells #[.string x.f0, .string x.f1] 39 (0, 0)) := by rw [← hWa]; exact World.alloc_heap_new wr _
      have cT0 : Wa.cell? ⟨wr.heap.size, 0, none⟩ = some (.string x.f0) := by simp [World.cell?, hT]
      have cT1 : Wa.cell? ⟨wr.heap.size, 1, none⟩ = some (.string x.f1) := by simp [World.cell?, hT]
      have hJa : J ((zs.take k).filter (keepP name)) Wa := hJA _ _ _ none hJs hg (fun r e => by cases e)
      have hKa : KpOut n₀ B0 Bf wr Wa :=
        ⟨(Below.refl n₀ wr).grown hg (by have := hK.1.size; omega) (fun k e => by cases e), hg.block B0 bN.lt (by simp), hg.block Bf bF.lt (by simp)⟩
      have hlf : ((zs.take k).filter (keepP name)).length < zs.length := by
        have := List.length_filter_le (keepP name) (zs.take k)
        rw [List.length_take] at this
        omega
      have htk : zs.take (k + 1) = zs.take k ++ [x] := by
        rw [List.take_add_one, hx]; rfl
      cases hq : (x.f0.toList != name.toList)
      · have hf : (zs.take (k + 1)).filter (keepP name) = (zs.take k).filter (keepP name) := by
          rw [htk, List.filter_append]; simp [keepP, hq]
        gi_wp2_with (gi_at_call 36; refine (out_is_in F (n - 1) h36 hro _ name B0 _ cN).mono ?_; rintro e w' ⟨rfl, rfl⟩)
        refine ⟨fun f hf' => (by cases hf'), ?_⟩
        gi_wp2
        go_roundw
        case rel => exact ⟨k + 1, by omega, by simp, by rw [hf]; exact hJa, hJA, hK.t hKa⟩
        case measure => simp [intOf]; omega
      · have hf : (zs.take (k + 1)).filter (keepP name) = (zs.take k).filter (keepP name) ++ [x] := by
          rw [htk, List.filter_append]; simp [keepP, hq]
        obtain ⟨fn, tmps, assign, body, hy, hR⟩ := hY _ x _ hJa hlf
        gi_wp2_with (gi_at_call 36; refine (out_is_in F (n - 1) h36 hro _ name B0 _ cN).mono ?_; rintro e w' ⟨rfl, rfl⟩)
        refine hR.mono ?_
        rintro e W3 (⟨rfl, hJ3, hk3⟩ | ⟨rfl, hJx3⟩)
        · gi_wp2
          go_roundw
          case rel => exact ⟨k + 1, by omega, by simp, by rw [hf]; exact hJ3, hJA, (hK.t hKa).t hk3⟩
          case measure => simp [intOf]; omega
        · gi_wp2
          refine bodyPost_ret (results_none rfl _ _ _) rfl ?_
          exact ⟨⟨_, rfl⟩, .inr ⟨_, trivial, hJx3⟩⟩
    · obtain rfl : k = zs.length := by omega
      gi_wp2
      go_end0
      exact ⟨⟨_, rfl⟩, .inl ⟨_, rfl, by rw [List.take_length] at hJs; exact hJs⟩⟩
theorem out_stops (F : Fence) (n : Nat) (h44 : F.fn 44) (h36 : F.fn 36) (hro : F.round = none) (hn : 2 ≤ n) (Bl Bf B0 n₀ : Nat) (name : ByteArray) (A : Option Addr) (cap : Nat) (zs : List S39) (hlen : zs.length ≤ 1000000) (w : World)
    (hB : n₀ ≤ w.heap.size) (hBl : Boxed w Bl 22 (.slice A zs.length cap)) (hBf : Boxed w Bf 51 (.func (.func 36) #[] #[.pointer (some ⟨B0, 0, none⟩)])) (hB0 : Boxed w B0 9 (.string name))
    (hc : ∀ j x, zs[j]? = some x → ∃ ad, A = some ad ∧ ad.block < n₀ ∧ w.cell? (ad.add (j * 2)) = some (.string x.f0) ∧ w.cell? ⟨(ad.add (j * 2)).block, (ad.add (j * 2)).off + 1, none⟩ = some (.string x.f1)) :
    SeqStopsK F n Try.prog 44 #[.pointer (some ⟨Bl, 0, none⟩), .pointer (some ⟨Bf, 0, none⟩)] (fun x : S39 => #[Value.agg #[.string x.f0, .string x.f1]]) (KpOut n₀ B0 Bf) (fun ys => ys = zs.filter (keepP name)) (fun _ => True) zs.length w := fun l J Jx W hW hJ _ hY h0 => by
  have hBl' : Boxed W Bl 22 _ := (hW.block Bl hBl.lt).trans hBl
  have hBf' : Boxed W Bf 51 (.func (.func 36) #[] #[.pointer (some ⟨B0, 0, none⟩)]) := (hW.block Bf hBf.lt).trans hBf
  have hB0' : Boxed W B0 9 (.string name) := (hW.block B0 hB0.lt).trans hB0
  refine out_iter_in F n h44 h36 hro hn l Bl Bf B0 n₀ name A cap zs hlen J Jx hY W hJ (by have := hW.size; omega) hBf'.lt hB0'.lt hBl'.cell hBf' hB0' ?_ h0
  intro j x hx
  obtain ⟨ad, e, hb, c1, c2⟩ := hc j x hx
  have hb2 : (ad.add (j * 2)).block < w.heap.size := by rw [add_block]; omega
  exact ⟨ad, e, hb, (hW.cell (p := ad.add (j * 2)) hb2).trans c1, (hW.cell (p := ⟨(ad.add (j * 2)).block, (ad.add (j * 2)).off + 1, none⟩) hb2).trans c2⟩
/-- What the loop's assignment leaves: the variable's box holds x. -/
def AxOut (ts : Nat → Array Value → Prop) (x : S39) (a' : Act) (W : World) : Prop := ∃ B, ts B a'.tmps ∧ a'.defers = [] ∧ W.heap[B]? = some (.cells #[.string x.f0, .string x.f1] 39 (0, 0))
theorem ownFrom_ax (ts : Nat → Array Value → Prop) (B : Nat) (x : S39) (a' : Act) : OwnFrom B (fun (_ : Unit) W => AxOut ts x a' W) := by
  rintro _ W W' row ⟨b, h1, h2, h3⟩ hg hr
  refine ⟨b, h1, h2, (hg.block b (Array.getElem?_eq_some_iff.1 h3).1 ?_).trans h3⟩
  intro e
  obtain ⟨_, o, ho, hc⟩ := hr b e.symm
  rw [h3] at ho; cases ho; cases hc

theorem two_new (W : World) (a b : Value) (t : TypeId) : ∀ j u, [a, b][j]? = some u → (W.alloc (.cells #[a, b] t)).cell? ((⟨W.heap.size, 0, none⟩ : Addr).add j) = some u := by
  intro j u hu
  have hh : (W.alloc (.cells #[a, b] t)).heap[W.heap.size]? = some (.cells #[a, b] t (0, 0)) := World.alloc_heap_new W _
  have := blk_cell hh j
  rw [show (⟨W.heap.size, 0, none⟩ : Addr).add j = ⟨W.heap.size, j, none⟩ by simp [Addr.add, eq_comm]]
  rw [this]; simpa using hu
set_option maxRecDepth 100000 in
set_option maxHeartbeats 4000000 in
theorem out_in (F : Fence) (n : Nat) (h31 : F.fn 31) (h35 : F.fn 35) (h36 : F.fn 36) (h44 : F.fn 44) (hro : F.round = none) (hn : 4 ≤ n) (A : Option Addr) (c0 : Nat) (l : List S39) (name : ByteArray) (w : World) (hl : l.length ≤ 1000000)
    (hc : ∀ j x, l[j]? = some x → ∃ ad, A = some ad ∧ ad.block < w.heap.size ∧ w.cell? (ad.add (j * 2)) = some (.string x.f0) ∧ w.cell? ⟨(ad.add (j * 2)).block, (ad.add (j * 2)).off + 1, none⟩ = some (.string x.f1)) :
    CallsIn F n Try.prog 31 #[.slice A l.length c0, .string name] w fun e W' => ∃ v, e = .returned v ∧ W'.ownsRow w.heap.size 39 2 v (l.filter (keepP name)).length (flat (l.filter (keepP name))) ∧ Below w.heap.size w W' := by
  have h1 : 1 ≤ n := by omega
  obtain ⟨i0, hi, hz0, hz1, hz2⟩ := info_parts info39
  refine callsIn_of_wp_marks Try.func31 rfl h31 ?_ hro
  simp only [Try.ntmps31, List.size_toArray, List.length_cons, List.length_nil, Nat.reduceAdd, Nat.reduceSub, Array.replicate_succ, Array.replicate_zero, List.push_toArray, List.append_toArray, List.nil_append, List.cons_append]
  gi_wp2_with (gi_at_call 35; refine (out_among_in F (n - 1) h35 hro _ _ _ _ _).mono ?_; rintro e w' ⟨rfl, rfl⟩)
  have e2 : w.heap.size + 1 + 1 = w.heap.size + 2 := rfl
  obtain ⟨W4, hW4⟩ : ∃ W4, (((w.alloc (.cells #[.string name] 9)).alloc (.cells #[.slice none 0 0] 22)).alloc (.cells #[.slice A l.length c0] 22)).alloc (.cells #[.func (.func 36) #[] #[.pointer (some ⟨w.heap.size, 0, none⟩)]] 51) = W4 := ⟨_, rfl⟩
  have s4 : W4.heap.size = w.heap.size + 4 := by rw [← hW4]; simp
  have bN : Boxed W4 w.heap.size 9 (.string name) := by
    rw [← hW4]; exact (((Boxed.new w 9 (.string name)).alloc _).alloc _).alloc _
  have bD : Boxed W4 (w.heap.size + 1) 22 (.slice none 0 0) := by
    have := Boxed.new (w.alloc (.cells #[.string name] 9)) 22 (.slice none 0 0)
    rw [World.size_alloc] at this
    rw [← hW4]; exact (this.alloc _).alloc _
  have bL : Boxed W4 (w.heap.size + 2) 22 (.slice A l.length c0) := by
    have := Boxed.new ((w.alloc (.cells #[.string name] 9)).alloc (.cells #[.slice none 0 0] 22)) 22 (.slice A l.length c0)
    rw [World.size_alloc, World.size_alloc] at this
    rw [← hW4]; exact this.alloc _
  have bF : Boxed W4 (w.heap.size + 3) 51 (.func (.func 36) #[] #[.pointer (some ⟨w.heap.size, 0, none⟩)]) := by
    have := Boxed.new (((w.alloc (.cells #[.string name] 9)).alloc (.cells #[.slice none 0 0] 22)).alloc (.cells #[.slice A l.length c0] 22)) 51 (.func (.func 36) #[] #[.pointer (some ⟨w.heap.size, 0, none⟩)])
    rw [World.size_alloc, World.size_alloc, World.size_alloc] at this
    rw [← hW4]; exact this
  have hB0 : Below w.heap.size w W4 := by
    rw [← hW4]
    exact ((((Below.refl _ w).alloc (Nat.le_refl _) _).alloc (by simp) _).alloc (by simp; omega) _).alloc (by simp; omega) _
  rw [hW4]
  clear hW4
  refine wpIn_rangeFunc_ownH hro h1 (gf := 44) (lb := #[.pointer (some ⟨w.heap.size + 2, 0, none⟩), .pointer (some ⟨w.heap.size + 3, 0, none⟩)]) rfl h44 (enters_of Try.func44 (by kernel_rfl) rfl)
    (out_stops F (n - 1) h44 h36 hro (by omega) (w.heap.size + 2) (w.heap.size + 3) w.heap.size w.heap.size name A c0 l hl W4 (by omega) bL bF bN (fun j x hx => by
      obtain ⟨ad, e, hb, k1, k2⟩ := hc j x hx
      have hb2 : (ad.add (j * 2)).block < w.heap.size := by rw [add_block]; exact hb
      exact ⟨ad, e, hb, (hB0.cell (p := ad.add (j * 2)) hb2).trans k1, (hB0.cell (p := ⟨(ad.add (j * 2)).block, (ad.add (j * 2)).off + 1, none⟩) hb2).trans k2⟩))
    KpOut.t (fun W b o o' hb h hcl hwk => ⟨belowK_b (w := W4) (by omega) W b o o' hb h hcl hwk, World.putObj_heap_other (by omega), World.putObj_heap_other (by omega)⟩)
    (Below.refl _ _) (fun _ => rfl)
    (fun pre W => (∃ v, Boxed W (w.heap.size + 1) 22 v ∧ W.ownsRow w.heap.size 39 2 v pre.length (flat pre) ∧ True) ∧ ((Boxed W w.heap.size 9 (.string name) ∧ Boxed W (w.heap.size + 3) 51 (.func (.func 36) #[] #[.pointer (some ⟨w.heap.size, 0, none⟩)])) ∧ Below w.heap.size w W))
    (fun _ _ _ => False)
    (OwnFrom.and (Own.from (holdsRow_own w.heap.size (w.heap.size + 1) 22 39 2 (fun pre : List S39 => pre.length) flat (fun _ _ => True)) _) (OwnFrom.and (OwnFrom.and (Own.from (boxed_own _ _ (fun _ => .string name)) _) (Own.from (boxed_own _ _ (fun _ => (.func (.func 36) #[] #[.pointer (some ⟨w.heap.size, 0, none⟩)]))) _)) (ownFrom_below (Nat.le_refl _) (by omega))))
    (fun _ _ _ _ _ hs _ _ => hs)
    ⟨⟨_, bD, World.ownsRow_nil _ _ _ _, trivial⟩, ⟨bN, bF⟩, hB0⟩
    (AxOut (fun B ts => ∃ u, ts = #[.slice A l.length c0, .string name, undef, .pointer (some ⟨w.heap.size, 0, none⟩), .pointer (some ⟨w.heap.size + 1, 0, none⟩), .pointer (some ⟨B, 0, none⟩), .slice A l.length c0, .func (.func 36) #[] #[.pointer (some ⟨w.heap.size, 0, none⟩)], .func (.func 44) #[] #[.pointer (some ⟨w.heap.size + 2, 0, none⟩), .pointer (some ⟨w.heap.size + 3, 0, none⟩)], u, undef, undef, undef, undef, undef]))
    (fun x a' => ownFrom_ax _ _ x a') ?assign ?body ?done ?stop
  case assign =>
    rintro b pre x W K ⟨⟨v, hv, hrow, _⟩, ⟨bn, bf⟩, hB⟩ hK
    gi_wp2
    have hg := World.grownBy_alloc W (.cells #[.string x.f0, .string x.f1] 39) none
    exact hK _ _ ((KeepsOthers.alloc W _).from _) ⟨(Below.refl _ W).alloc hB.size _, hg.block _ bn.lt (by simp), hg.block _ bf.lt (by simp)⟩
      ⟨⟨v, hv.alloc _, hrow.alloc _, trivial⟩, ⟨bn.alloc _, bf.alloc _⟩, hB.alloc hB.size _⟩ ⟨W.heap.size, ⟨_, rfl⟩, rfl, World.alloc_heap_new W _⟩
  case body =>
    rintro b pre x ⟨tm, df⟩ W hb _ ⟨⟨v, hv, hrow, _⟩, ⟨bn, bf⟩, hB⟩ ⟨B, ⟨u, hts⟩, hdf, hbx⟩ hlt
    obtain rfl : tm = _ := hts
    obtain rfl : df = [] := hdf
    have hc' := hv.cell
    have cB0 : W.cell? ⟨B, 0, none⟩ = some (.string x.f0) := by simp [World.cell?, hbx]
    have cB1 : W.cell? ⟨B, 1, none⟩ = some (.string x.f1) := by simp [World.cell?, hbx]
    gi_wp2_with (gi_at_builtin; refine wpListIn_append_own _ rfl _ _ 22 rfl w.heap.size 39 i0 (.agg #[.string ⟨#[]⟩, .string ⟨#[]⟩]) 2 32 Try.underlying22 hi hz0 hz1 hz2 rfl (by decide) _ _ _ rfl (hrow.alloc _) ⟨W.heap.size, 0, none⟩ 1 1 [.string x.f0, .string x.f1] rfl rfl (two_new W _ _ 39) (by simp [Value.oneCell']) (by unfold maxLen; omega) (by omega) (by have := hB.size; simp; omega) ?_; intro v' w1 hown' hgrow _; obtain ⟨g', cap', rfl⟩ := ownsRow_succ hown'; obtain ⟨hv1, hv2, hr2, hk2, hb2⟩ := hv.appended (by decide) hrow hB.size (by omega) hown' hgrow; have hc1 := hv1.cell; have hf1 := hv1.frozen; have bn1 := (bn.alloc _).kept hgrow (bn.not_row (by decide) hrow); have bf1 := (bf.alloc _).kept hgrow (bf.not_row (by decide) hrow))
    have bn2 : Boxed (w1.setCell ⟨w.heap.size + 1, 0, none⟩ (.slice (some ⟨g', 0, none⟩) (pre.length + 1) cap')) w.heap.size 9 (.string name) := (Below.heap_setCell w1 ⟨w.heap.size + 1, 0, none⟩ _ w.heap.size (by simp)).trans bn1
    have bf2 : Boxed (w1.setCell ⟨w.heap.size + 1, 0, none⟩ (.slice (some ⟨g', 0, none⟩) (pre.length + 1) cap')) (w.heap.size + 3) 51 (.func (.func 36) #[] #[.pointer (some ⟨w.heap.size, 0, none⟩)]) := (Below.heap_setCell w1 ⟨w.heap.size + 1, 0, none⟩ _ (w.heap.size + 3) (by simp)).trans bf1
    have hlen2 : (pre ++ [x]).length = pre.length + 1 := by simp
    exact ⟨hk2.from _, ⟨hb2, bn2.trans bn.symm, bf2.trans bf.symm⟩, ⟨_, hv2, by rw [hlen2, flat_app]; exact hr2⟩, ⟨bn2, bf2⟩, hB.trans hb2⟩
  case done =>
    rintro D ys W hD rfl ⟨⟨v, hv, hrow, _⟩, _, hB⟩ hK
    have hc' := hv.cell
    have hf' := hv.frozen
    obtain ⟨A', n', cap', rfl⟩ : ∃ A' n' cap', v = .slice A' n' cap' := by
      rcases hrow.2 with ⟨rfl, _⟩ | ⟨g, cap, cur, rfl, _⟩ <;> exact ⟨_, _, _, rfl⟩
    gi_wp2
    have hK' := (KeepsOthers.setCell W ⟨w.heap.size + 1, 0, none⟩ (.slice A' n' cap')).same D _ hK rfl
    refine ⟨by simp, .inl ⟨_, _, rfl, run_takeDeferred hK', ?_⟩⟩
    have hc5 := cell_kept (World.cell?_setCell_same' W ⟨w.heap.size + 1, 0, none⟩ (.slice A' n' cap') (by rw [hc']; rfl)) (grownBy_putObj' _ D (.deferred none)) (fun r e => by cases e; exact ⟨_, hK', rfl⟩)
    have h5 := hrow.kept (grownBy_setCell' W (w.heap.size + 1) (.slice A' n' cap')) (.inr (hv.not_row (by decide) hrow).symm)
    refine ⟨.slice A' n' cap', ?_, .slice A' n' cap', rfl, ownsRow_putObj h5 _ hK' rfl, (hB.setCell (p := ⟨w.heap.size + 1, 0, none⟩) (by simp) _).trans (belowK_b (w := w) (Nat.le_refl _) _ D _ _ (by omega) hK' rfl rfl)⟩
    simp [results, Try.f31, go_sem, hc5]
  case stop =>
    rintro D c pre W _ _ h _
    exact h.elim
theorem dims_Without.calls (A0 : Option Addr) (c0 : Nat) (l0 : List S39) (a1 : ByteArray) (r : List S39) (w : World) (hr0 : Kd.C k39 w A0 l0.length l0) (hc0 : l0.length ≤ c0) (h : dims_Without.f l0 a1 = some r) :
    Calls Try.prog 31 #[.slice A0 l0.length c0, .string a1] w fun e w' => ∃ v0_ : Value, e = .returned (v0_) ∧ Kd.R k39 39 w' w.heap.size (fun _ => True) v0_ r ∧ Below w.heap.size w w' := by
  unfold dims_Without.f at h
  by_cases hl : l0.length ≤ 1000000
  case neg => rw [if_neg hl] at h; simp at h
  rw [if_pos hl] at h
  obtain rfl := Option.some.inj h
  refine (callsIn_wide.1 (out_in Fence.wide 4 trivial trivial trivial trivial rfl (Nat.le_refl _) A0 c0 l0 a1 w hl ?_)).mono ?_
  · intro j x hx
    have hj := (List.getElem?_eq_some_iff.1 hx).1
    obtain ⟨ad, e, c1, c2⟩ := at_T39 hr0 (j : Int) (by omega) (by omega)
    rw [Int.toNat_natCast] at c1 c2
    have hxe : rd_T39 l0 (j : Int) = x := by
      have := (List.getElem?_eq_some_iff.1 hx).2
      simp [rd_T39, hx]
    rw [hxe] at c1 c2
    have := World.block_lt_of_cell? w _ c1
    rw [add_block] at this
    exact ⟨ad, e, this, c1, c2⟩
  · rintro e w' ⟨v, rfl, ho, hb⟩
    exact ⟨v, rfl, R_flat rfl ho, hb⟩
end Go.Proofs.Ytbljhfdmimmblaa.P
