/- Texts of mine, joined: HandStr, HandCps, HandSch, HandPut, HandIns, HandGps, HandGq. -/
import Derived.Test.YtmflggbpiadkjaaSrtJ
import Derived.Test.YtmflggbpiadkjaaPx0
import Derived.Deep.RegionLaw
import Derived.Deep.RegionLawGrows
import Derived.Deep.AppendLies
import Derived.Lib.Hide
import Derived.Deep.Slices
import Derived.Deep.Upon
import Derived.Deep.AppendSrc
import Derived.RegionTactic
import Derived.Test.YtmflggbpiadkjaaHandJ
import Derived.Carry
import Derived.Maps.OwnRows
import Derived.Maps.OwnSet
import Derived.Maps.Views
import Derived.DeepKeys3
import Derived.WideKeyEntry
import Derived.Maps.AppendAt
import Derived.Laws.AppendOwn
/- strings.Compare, as the print asks for it. -/
namespace Go.Proofs.Ytmflggbpiadkjaa.P
open Go.RowKit Go.Proofs.YtmflggbpiadkjaaW.PrintWords Go.Proofs.YtmflggbpiadkjaaW.PrintLast Go.Proofs.YtmflggbpiadkjaaW.PrintMore
def strings_Compare.f (a0 : ByteArray) (a1 : ByteArray) : Option Int := some (cmpB a0 a1)
theorem strings_Compare.calls (a0 : ByteArray) (a1 : ByteArray) (r : Int) (w : World) (h : strings_Compare.f a0 a1 = some r) :
    Calls Try.prog 66 #[.string a0, .string a1] w fun e w' => e = .returned (.int .i64 r) ∧ Drawn0 w w' := by
  cases h
  refine (compare_calls a0 a1 w).mono ?_
  rintro e w' ⟨rfl, rfl⟩
  exact ⟨rfl, Drawn0.refl _⟩
end Go.Proofs.Ytmflggbpiadkjaa.P

/- The contract of interco.compare (printed). -/
namespace Go.Proofs.Ytmflggbpiadkjaa.P
open Go.RowKit Go.Proofs.YtmflggbpiadkjaaW.PrintWords Go.Proofs.YtmflggbpiadkjaaW.PrintLast Go.Proofs.YtmflggbpiadkjaaW.PrintMore
attribute [local go_sem] max2_int min2_int max_two min_two max_three min_three max_four min_four   -- for this text's walks alone
set_option linter.unusedVariables false
set_option linter.unusedSimpArgs false

/-! ### interco_compare: function 100 -/
def interco_compare.f (a0_0 : ByteArray) (a0_1 : ByteArray) (a0_2 : Int) (a1_0 : ByteArray) (a1_1 : ByteArray) (a1_2 : Int) : Option (Int) := (strings_Compare.f a0_0 a1_0).bind fun t576 => (if t576 = 0 then ((strings_Compare.f a0_1 a1_1).bind fun t577 => (some t577)) else (some t576))
set_option maxHeartbeats 8000000 in
set_option maxRecDepth 100000 in
theorem interco_compare.calls (a0_0 : ByteArray) (a0_1 : ByteArray) (a0_2 : Int) (a1_0 : ByteArray) (a1_1 : ByteArray) (a1_2 : Int) (r : Int) (w : World) (h : interco_compare.f a0_0 a0_1 a0_2 a1_0 a1_1 a1_2 = some r) :
    Calls Try.prog 100 #[.agg #[.string a0_0, .string a0_1, .int .i64 a0_2], .agg #[.string a1_0, .string a1_1, .int .i64 a1_2]] w fun e w' => e = .returned (.int .i64 r) ∧ Below w.heap.size w w' := by
  have hu89 := Try.underlying89
  have HB := Aside0.mk (Below.refl w.heap.size w)
  have H : ((strings_Compare.f a0_0 a1_0).bind fun t576 => (if t576 = 0 then ((strings_Compare.f a0_1 a1_1).bind fun t577 => (some t577)) else (some t576))) = some r := h
  clear h
  replace H := Option.bind_eq_some_iff.mp H
  obtain ⟨t576, A30, H⟩ := H
  replace H : (if t576 = 0 then ((strings_Compare.f a0_1 a1_1).bind fun t577 => (some t577)) else (some t576)) = some r := H
  have A3 := Aside0.mk A30
  clear A30
  by_cases c4 : t576 = 0
  · rw [if_pos c4] at H
    have c4b0 : (t576 == 0) = true := beq_iff_eq.mpr c4
    have c4b1 : (t576 != 0) = false := bne_eq_false_iff_eq.mpr c4
    clear c4
    replace H := Option.bind_eq_some_iff.mp H
    obtain ⟨t577, A50, H⟩ := H
    replace H : (some t577) = some r := H
    have A5 := Aside0.mk A50
    clear A50
    obtain rfl := Option.some.inj H
    go_enter Try.func100, Try.ntmps100
    go_wp2_with (first | ((with_reducible refine gate_dst (N := 2) rfl ?_); refine box_event ?hg (N := 2) ?hd (cs := #[.string a0_0, .string a0_1, .int .i64 a0_2]) (t := 89) ?hr ?_; (case hd => rfl); (case hg => rfl); (case hr => first | (go_simp; done) | (go_simp; rfl)); intro gb574 hg w6 hbox hb; have n0_ := Aside0.mk (below_step (by repeat (first | (with_reducible first | exact HB.out | apply below_alloc | apply pw_below_drewN | apply below_drew1) | exact HB.out)) hb); have n1_ := Aside0.mk (hbox); have n2_ := Aside0.mk ((by rw [hg]; exact (below_size (by repeat (first | (with_reducible first | exact HB.out | apply below_alloc | apply pw_below_drewN | apply below_drew1) | exact HB.out))) : w.heap.size ≤ gb574)); have n3_ := Aside0.mk ((by rw [hg]; exact (below_size (by repeat (first | (with_reducible first | exact HB.out | apply below_alloc | apply pw_below_drewN | apply below_drew1) | exact HB.out))) : w.heap.size ≤ gb574)); clear HB; have HB := n0_; have BK574 := n1_; have GW574 := n2_; have GE574 := n3_; clear n0_ n1_ n2_ n3_; clear hb hbox hg) | ((with_reducible refine gate_dst (N := 3) rfl ?_); refine box_event ?hg (N := 3) ?hd (cs := #[.string a1_0, .string a1_1, .int .i64 a1_2]) (t := 89) ?hr ?_; (case hd => rfl); (case hg => rfl); (case hr => first | (go_simp; done) | (go_simp; rfl)); intro gb575 hg w7 hbox hb; have n0_ := Aside0.mk (blk_below (g := gb574) (o := .cells #[.string a0_0, .string a0_1, .int .i64 a0_2] 89 (0, 0)) (by (with_reducible repeat (first | refine blk_drewN ?_ _ | refine blk_drew ?_ | refine blk_alloc ?_ _)); exact BK574.out) hb); have n1_ := Aside0.mk (below_step (by repeat (first | (with_reducible first | exact HB.out | apply below_alloc | apply pw_below_drewN | apply below_drew1 | refine below_set ?_ GE574.out) | exact HB.out)) hb); have n2_ := Aside0.mk (hbox); have n3_ := Aside0.mk ((by rw [hg]; exact (below_size (by repeat (first | (with_reducible first | exact HB.out | apply below_alloc | apply pw_below_drewN | apply below_drew1 | refine below_set ?_ GE574.out) | exact HB.out))) : w.heap.size ≤ gb575)); have n4_ := Aside0.mk ((by rw [hg]; exact (below_size (by repeat (first | (with_reducible first | exact HB.out | apply below_alloc | apply pw_below_drewN | apply below_drew1 | refine below_set ?_ GE574.out) | exact HB.out))) : w.heap.size ≤ gb575)); have n5_ := Aside0.mk ((by rw [hg]; exact Nat.ne_of_lt (blk_lt (g := gb574) (o := .cells #[.string a0_0, .string a0_1, .int .i64 a0_2] 89 (0, 0)) (by (with_reducible repeat (first | refine blk_drewN ?_ _ | refine blk_drew ?_ | refine blk_alloc ?_ _)); exact BK574.out)) : gb574 ≠ gb575)); have n6_ := Aside0.mk ((by rw [hg]; exact Nat.ne_of_gt (blk_lt (g := gb574) (o := .cells #[.string a0_0, .string a0_1, .int .i64 a0_2] 89 (0, 0)) (by (with_reducible repeat (first | refine blk_drewN ?_ _ | refine blk_drew ?_ | refine blk_alloc ?_ _)); exact BK574.out)) : gb575 ≠ gb574)); clear BK574; clear HB; have BK574 := n0_; have HB := n1_; have BK575 := n2_; have GW575 := n3_; have GE575 := n4_; have NB574_575 := n5_; have NB575_574 := n6_; clear n0_ n1_ n2_ n3_ n4_ n5_ n6_; clear hb hbox hg; have hnb8 := NB574_575.out; have hnc8 := NB575_574.out; have hcz9_0 : w7.cell? ⟨gb574, 0, none⟩ = some (.string a0_0) := (blk_cell BK574.out 0).trans rfl; have hcz9_1 : w7.cell? ⟨gb574, 1, none⟩ = some (.string a0_1) := (blk_cell BK574.out 1).trans rfl; have hcz9_2 : w7.cell? ⟨gb574, 2, none⟩ = some (.int .i64 a0_2) := (blk_cell BK574.out 2).trans rfl; have hfz9_0 := blk_frozen BK574.out 0; have hfz9_1 := blk_frozen BK574.out 1; have hfz9_2 := blk_frozen BK574.out 2; have hcz10_0 : w7.cell? ⟨gb575, 0, none⟩ = some (.string a1_0) := (blk_cell BK575.out 0).trans rfl; have hcz10_1 : w7.cell? ⟨gb575, 1, none⟩ = some (.string a1_1) := (blk_cell BK575.out 1).trans rfl; have hcz10_2 : w7.cell? ⟨gb575, 2, none⟩ = some (.int .i64 a1_2) := (blk_cell BK575.out 2).trans rfl; have hfz10_0 := blk_frozen BK575.out 0; have hfz10_1 := blk_frozen BK575.out 1; have hfz10_2 := blk_frozen BK575.out 2) | ((with_reducible refine gate_callee (f := 66) rfl ?_); refine goesL_ (some 10) rfl rfl Try.func66 (by kernel_rfl) rfl #[.string a0_0, .string a1_0] rfl (by (try simp only [List.map_toArray, List.map_cons, List.map_nil]); first | done | rfl | (simp only [List.length_drop, List.length_take]; rfl)) ?_; (with_reducible refine (strings_Compare.calls a0_0 a1_0 t576 _ A3.out).mono ?_); rintro e w' ⟨rfl, ⟨nd, rfl⟩⟩; refine ⟨_, rfl, ?_⟩) | ((with_reducible refine gate_callee (f := 66) rfl ?_); refine goesL_ (some 18) rfl rfl Try.func66 (by kernel_rfl) rfl #[.string a0_1, .string a1_1] rfl (by (try simp only [List.map_toArray, List.map_cons, List.map_nil]); first | done | rfl | (simp only [List.length_drop, List.length_take]; rfl)) ?_; (with_reducible refine (strings_Compare.calls a0_1 a1_1 t577 _ A5.out).mono ?_); rintro e w' ⟨rfl, ⟨nd, rfl⟩⟩; refine ⟨_, rfl, ?_⟩))
    go_ret
    exact ⟨by first | rfl | (simp [errW_none, errW_some] <;> rfl) | (simp [*, errW_none, errW_some] <;> rfl), by repeat (first | (with_reducible first | exact HB.out | apply below_alloc | apply pw_below_drewN | apply below_drew1 | refine below_set ?_ GE574.out | refine below_set ?_ GE575.out) | exact HB.out)⟩
  · rw [if_neg c4] at H
    have c4b0 : (t576 == 0) = false := beq_eq_false_iff_ne.mpr c4
    have c4b1 : (t576 != 0) = true := bne_iff_ne.mpr c4
    obtain rfl := Option.some.inj H
    go_enter Try.func100, Try.ntmps100
    go_wp2_with (first | ((with_reducible refine gate_dst (N := 2) rfl ?_); refine box_event ?hg (N := 2) ?hd (cs := #[.string a0_0, .string a0_1, .int .i64 a0_2]) (t := 89) ?hr ?_; (case hd => rfl); (case hg => rfl); (case hr => first | (go_simp; done) | (go_simp; rfl)); intro gb574 hg w11 hbox hb; have n0_ := Aside0.mk (below_step (by repeat (first | (with_reducible first | exact HB.out | apply below_alloc | apply pw_below_drewN | apply below_drew1) | exact HB.out)) hb); have n1_ := Aside0.mk (hbox); have n2_ := Aside0.mk ((by rw [hg]; exact (below_size (by repeat (first | (with_reducible first | exact HB.out | apply below_alloc | apply pw_below_drewN | apply below_drew1) | exact HB.out))) : w.heap.size ≤ gb574)); have n3_ := Aside0.mk ((by rw [hg]; exact (below_size (by repeat (first | (with_reducible first | exact HB.out | apply below_alloc | apply pw_below_drewN | apply below_drew1) | exact HB.out))) : w.heap.size ≤ gb574)); clear HB; have HB := n0_; have BK574 := n1_; have GW574 := n2_; have GE574 := n3_; clear n0_ n1_ n2_ n3_; clear hb hbox hg) | ((with_reducible refine gate_dst (N := 3) rfl ?_); refine box_event ?hg (N := 3) ?hd (cs := #[.string a1_0, .string a1_1, .int .i64 a1_2]) (t := 89) ?hr ?_; (case hd => rfl); (case hg => rfl); (case hr => first | (go_simp; done) | (go_simp; rfl)); intro gb575 hg w12 hbox hb; have n0_ := Aside0.mk (blk_below (g := gb574) (o := .cells #[.string a0_0, .string a0_1, .int .i64 a0_2] 89 (0, 0)) (by (with_reducible repeat (first | refine blk_drewN ?_ _ | refine blk_drew ?_ | refine blk_alloc ?_ _)); exact BK574.out) hb); have n1_ := Aside0.mk (below_step (by repeat (first | (with_reducible first | exact HB.out | apply below_alloc | apply pw_below_drewN | apply below_drew1 | refine below_set ?_ GE574.out) | exact HB.out)) hb); have n2_ := Aside0.mk (hbox); have n3_ := Aside0.mk ((by rw [hg]; exact (below_size (by repeat (first | (with_reducible first | exact HB.out | apply below_alloc | apply pw_below_drewN | apply below_drew1 | refine below_set ?_ GE574.out) | exact HB.out))) : w.heap.size ≤ gb575)); have n4_ := Aside0.mk ((by rw [hg]; exact (below_size (by repeat (first | (with_reducible first | exact HB.out | apply below_alloc | apply pw_below_drewN | apply below_drew1 | refine below_set ?_ GE574.out) | exact HB.out))) : w.heap.size ≤ gb575)); have n5_ := Aside0.mk ((by rw [hg]; exact Nat.ne_of_lt (blk_lt (g := gb574) (o := .cells #[.string a0_0, .string a0_1, .int .i64 a0_2] 89 (0, 0)) (by (with_reducible repeat (first | refine blk_drewN ?_ _ | refine blk_drew ?_ | refine blk_alloc ?_ _)); exact BK574.out)) : gb574 ≠ gb575)); have n6_ := Aside0.mk ((by rw [hg]; exact Nat.ne_of_gt (blk_lt (g := gb574) (o := .cells #[.string a0_0, .string a0_1, .int .i64 a0_2] 89 (0, 0)) (by (with_reducible repeat (first | refine blk_drewN ?_ _ | refine blk_drew ?_ | refine blk_alloc ?_ _)); exact BK574.out)) : gb575 ≠ gb574)); clear BK574; clear HB; have BK574 := n0_; have HB := n1_; have BK575 := n2_; have GW575 := n3_; have GE575 := n4_; have NB574_575 := n5_; have NB575_574 := n6_; clear n0_ n1_ n2_ n3_ n4_ n5_ n6_; clear hb hbox hg; have hnb13 := NB574_575.out; have hnc13 := NB575_574.out; have hcz14_0 : w12.cell? ⟨gb574, 0, none⟩ = some (.string a0_0) := (blk_cell BK574.out 0).trans rfl; have hcz14_1 : w12.cell? ⟨gb574, 1, none⟩ = some (.string a0_1) := (blk_cell BK574.out 1).trans rfl; have hcz14_2 : w12.cell? ⟨gb574, 2, none⟩ = some (.int .i64 a0_2) := (blk_cell BK574.out 2).trans rfl; have hfz14_0 := blk_frozen BK574.out 0; have hfz14_1 := blk_frozen BK574.out 1; have hfz14_2 := blk_frozen BK574.out 2; have hcz15_0 : w12.cell? ⟨gb575, 0, none⟩ = some (.string a1_0) := (blk_cell BK575.out 0).trans rfl; have hcz15_1 : w12.cell? ⟨gb575, 1, none⟩ = some (.string a1_1) := (blk_cell BK575.out 1).trans rfl; have hcz15_2 : w12.cell? ⟨gb575, 2, none⟩ = some (.int .i64 a1_2) := (blk_cell BK575.out 2).trans rfl; have hfz15_0 := blk_frozen BK575.out 0; have hfz15_1 := blk_frozen BK575.out 1; have hfz15_2 := blk_frozen BK575.out 2) | ((with_reducible refine gate_callee (f := 66) rfl ?_); refine goesL_ (some 10) rfl rfl Try.func66 (by kernel_rfl) rfl #[.string a0_0, .string a1_0] rfl (by (try simp only [List.map_toArray, List.map_cons, List.map_nil]); first | done | rfl | (simp only [List.length_drop, List.length_take]; rfl)) ?_; (with_reducible refine (strings_Compare.calls a0_0 a1_0 t576 _ A3.out).mono ?_); rintro e w' ⟨rfl, ⟨nd, rfl⟩⟩; refine ⟨_, rfl, ?_⟩))
    go_ret
    exact ⟨by first | rfl | (simp [errW_none, errW_some] <;> rfl) | (simp [*, errW_none, errW_some] <;> rfl), by repeat (first | (with_reducible first | exact HB.out | apply below_alloc | apply pw_below_drewN | apply below_drew1 | refine below_set ?_ GE574.out | refine below_set ?_ GE575.out) | exact HB.out)⟩

-- NOT PRINTED: function 88 (interco_insert)

-- NOT PRINTED: function 75 (interco_pairs)

-- NOT PRINTED: function 47 (interco_Pairs)

end Go.Proofs.Ytmflggbpiadkjaa.P

/- The contract of slices.BinarySearchFunc at pairs (printed out of a doctored translation by gen_search.py, turned by turn_search.py). -/
namespace Go.Proofs.Ytmflggbpiadkjaa.P
open Go.RowKit Go.Proofs.YtmflggbpiadkjaaW.PrintWords Go.Proofs.YtmflggbpiadkjaaW.PrintLast Go.Proofs.YtmflggbpiadkjaaW.PrintMore
attribute [local go_sem] max2_int min2_int max_two min_two max_three min_three max_four min_four   -- for this text's walks alone
set_option linter.unusedVariables false
set_option linter.unusedSimpArgs false

section
variable {P : Program} {ops : Array Oper} {Q : Exit → Act → World → Prop}
/-- A call of a function value that stands in a slot, in a region that draws. -/
theorem goesF_ {oi : Oper} {N : Option Tmp} {a : Act} {w : World} {K : Act → World → Prop} {f : FuncId} {fn : Func} {g : Operand} {xs : Array Operand} {ts : Array TypeId} (hf : P.funcs[f]? = some fn) (hname : (fn.name == "runtime.NumGoroutine") = false) (hb : fn.body.isSome = true) (args : Array Value)
    (hw : Region.wanted oi (yielded ops a.tmps) = true) (hN : oi.dst = N) (hop : oi.op = .call { callee := .value g, args := xs, argTypes := ts }) (hgv : a.eval g = .func (.func f) #[] #[]) (hargs : xs.map a.eval = args)
    (h : Calls P f args w fun e w' => ∃ v, e = .returned v ∧ K (a.put N v) w') : if Region.wanted oi (yielded ops a.tmps) = true then Oper.wp P oi a w K Q else K (a.put N undef) w := by
  refine call_ f args hw hN ?_ h
  have he := enters_ hf hname hb args w
  unfold execOp
  simp [hop, resolve, Deferred.ofValue, invoke, hgv, hargs, he]
end
/-! ### bin_search: function 99 -/
def bin_search.l0 : Nat → List (S89) → Int → Int → Int → ByteArray → ByteArray → Int → Option (Int × Bool)
  | 0, _, _, _, _, _, _, _ => none
  | k + 1, x0, x8, x9, x10, x573000, x573001, x573002 => if x9 < x10 then (if 0 ≤ (wrap64 ((IntKind.u64.wrap (wrap64 (x9 + x10))) / 2)) then (if (wrap64 ((IntKind.u64.wrap (wrap64 (x9 + x10))) / 2)) < (x0.length : Int) then ((interco_compare.f ((rd_T89 x0 (wrap64 ((IntKind.u64.wrap (wrap64 (x9 + x10))) / 2))).f0) ((rd_T89 x0 (wrap64 ((IntKind.u64.wrap (wrap64 (x9 + x10))) / 2))).f1) ((rd_T89 x0 (wrap64 ((IntKind.u64.wrap (wrap64 (x9 + x10))) / 2))).f2) x573000 x573001 x573002).bind fun t574 => (if t574 < 0 then (bin_search.l0 k x0 x8 (wrap64 ((wrap64 ((IntKind.u64.wrap (wrap64 (x9 + x10))) / 2)) + 1)) x10 x573000 x573001 x573002) else (bin_search.l0 k x0 x8 x9 (wrap64 ((IntKind.u64.wrap (wrap64 (x9 + x10))) / 2)) x573000 x573001 x573002))) else (none)) else (none)) else (if x9 < x8 then (if 0 ≤ x9 then (if x9 < (x0.length : Int) then ((interco_compare.f ((rd_T89 x0 x9).f0) ((rd_T89 x0 x9).f1) ((rd_T89 x0 x9).f2) x573000 x573001 x573002).bind fun t576 => (some (x9, (t576 == 0)))) else (none)) else (none)) else (some (x9, false)))
def bin_search.f (k : Nat) (l0 : List (S89)) (a1_0 : ByteArray) (a1_1 : ByteArray) (a1_2 : Int) : Option (Int × Bool) := bin_search.l0 k l0 (l0.length : Int) 0 (l0.length : Int) a1_0 a1_1 a1_2
theorem bin_search.mono_l : ∀ k, (∀ y0 y1 y2 y3 y4 y5 y6, LeO (bin_search.l0 k y0 y1 y2 y3 y4 y5 y6) (bin_search.l0 (k + 1) y0 y1 y2 y3 y4 y5 y6))
  | 0 => fun _ _ _ _ _ _ _ r h => by simp [bin_search.l0] at h
  | k + 1 => by
    have ih0 := bin_search.mono_l k
    · intro y0 y1 y2 y3 y4 y5 y6
      unfold bin_search.l0
      repeat' first
      | (with_reducible exact ih0 _ _ _ _ _ _ _)
      | (with_reducible exact LeO.refl _)
      | (with_reducible exact LeO.none _)
      | (with_reducible refine LeO.ite ?_ ?_)
      | (with_reducible refine LeO.bind ?_ (fun _ => ?_))
      | exact ih0 _ _ _ _ _ _ _
      | exact LeO.none _
      | refine LeO.ite ?_ ?_
      | refine LeO.bind ?_ (fun _ => ?_)
theorem bin_search.mono : ∀ a0 a1 a2 a3 k, LeO (bin_search.f k a0 a1 a2 a3) (bin_search.f (k + 1) a0 a1 a2 a3) := by
  intro a0 a1 a2 a3 k
  have ih0 := bin_search.mono_l k
  unfold bin_search.f
  repeat' first
      | (with_reducible exact ih0 _ _ _ _ _ _ _)
      | (with_reducible exact LeO.refl _)
      | (with_reducible exact LeO.none _)
      | (with_reducible refine LeO.ite ?_ ?_)
      | (with_reducible refine LeO.bind ?_ (fun _ => ?_))
      | exact ih0 _ _ _ _ _ _ _
      | exact LeO.none _
      | refine LeO.ite ?_ ?_
      | refine LeO.bind ?_ (fun _ => ?_)
def bin_search.T5 : Bool × List (List Nat × List Nat) := (true, [([], []), ([], []), ([], []), ([1, 2], [1, 2]), ([3], [3]), ([], []), ([0, 4, 5], [0, 4, 5]), ([6], [6])])
def bin_search.B5 : List Nat := [0, 0, 0, 6, 14, 0, 63, 127]
theorem bin_search.tab5 : rtab .any (opsOf Try.f99 5) = bin_search.T5 := by kernel_rfl
theorem bin_search.bits5 : waitsOk bin_search.T5.2 bin_search.B5 = true := by kernel_rfl
def bin_search.T8 : Bool × List (List Nat × List Nat) := (true, [([], []), ([], []), ([], []), ([1, 2], [1, 2]), ([3], [3]), ([4], [4]), ([4], [4]), ([4], [4]), ([6, 7, 4], [4, 6, 7]), ([8, 4], [4, 8]), ([4], [4]), ([5, 9, 10, 4, 4], [4, 5, 9, 10]), ([11, 4], [4, 11]), ([4, 12], [4, 12]), ([0, 11, 0], [0]), ([13, 14, 0, 1, 2, 3, 4, 5, 6, 7, 8, 9, 10, 11, 12, 13, 14], [13])])
def bin_search.B8 : List Nat := [0, 0, 0, 6, 14, 30, 30, 30, 222, 478, 30, 2046, 4094, 8190, 4095, 32767]
theorem bin_search.tab8 : rtab .any (opsOf Try.f99 8) = bin_search.T8 := by kernel_rfl
theorem bin_search.bits8 : waitsOk bin_search.T8.2 bin_search.B8 = true := by kernel_rfl
set_option maxHeartbeats 8000000 in
set_option maxRecDepth 100000 in
theorem bin_search.calls (k : Nat) (A0 : Option Addr) (c0 : Nat) (l0 : List (S89)) (a1_0 : ByteArray) (a1_1 : ByteArray) (a1_2 : Int) (r1 : Int) (r2 : Bool) (w : World) (hr0 : Kd.C k89 w A0 l0.length l0) (hc0 : l0.length ≤ c0) (h : bin_search.f k l0 a1_0 a1_1 a1_2 = some (r1, r2)) :
    Calls Try.prog 99 #[.slice A0 l0.length c0, .agg #[.string a1_0, .string a1_1, .int .i64 a1_2], .func (.func 100) #[] #[]] w fun e w' => e = .returned (.tuple #[.int .i64 r1, .bool r2]) ∧ Below w.heap.size w w' := by
  have hu89 := Try.underlying89
  have HR0 := Aside0.mk hr0
  have HC0 := Aside0.mk hc0
  clear hr0 hc0
  have HB := Aside0.mk (Below.refl w.heap.size w)
  have H : (bin_search.l0 k l0 (l0.length : Int) 0 (l0.length : Int) a1_0 a1_1 a1_2) = some (r1, r2) := h
  clear h
  have H' := Aside0.mk H
  clear H
  go_enter Try.func99, Try.ntmps99
  go_wp2_with (first | ((with_reducible refine gate_dst (N := 4) rfl ?_); refine box_event ?hg (N := 4) ?hd (cs := #[.string a1_0, .string a1_1, .int .i64 a1_2]) (t := 89) ?hr ?_; (case hd => rfl); (case hg => rfl); (case hr => first | (go_simp; done) | (go_simp; rfl)); intro gb572 hg w3 hbox hb; have n0_ := Aside0.mk (below_step (by repeat (first | (with_reducible first | exact HB.out | apply below_alloc | apply pw_below_drewN | apply below_drew1) | exact HB.out)) hb); have n1_ := Aside0.mk (hbox); have n2_ := Aside0.mk ((by rw [hg]; exact (below_size (by repeat (first | (with_reducible first | exact HB.out | apply below_alloc | apply pw_below_drewN | apply below_drew1) | exact HB.out))) : w.heap.size ≤ gb572)); have n3_ := Aside0.mk ((by rw [hg]; exact (below_size (by repeat (first | (with_reducible first | exact HB.out | apply below_alloc | apply pw_below_drewN | apply below_drew1) | exact HB.out))) : w.heap.size ≤ gb572)); clear HB; have HB := n0_; have BK572 := n1_; have GW572 := n2_; have GE572 := n3_; clear n0_ n1_ n2_ n3_; clear hb hbox hg))
  go_loopg [9, 10] k (fun kq v9 v10 w' => ∃ (x9_1 : Int) (x10_1 : Int), v9 = .int .i64 x9_1 ∧ v10 = .int .i64 x10_1 ∧ Aside0 (bin_search.l0 kq l0 (l0.length : Int) x9_1 x10_1 a1_0 a1_1 a1_2 = some (r1, r2)) ∧ Aside0 (kq ≤ k) ∧ Aside0 (w'.heap[gb572]? = some (.cells #[.string a1_0, .string a1_1, .int .i64 a1_2] 89 (0, 0))) ∧ Aside0 (Below w.heap.size w w'))
  case atStart => exact ⟨(0), ((l0.length : Int)), (by first | rfl | (simp; done) | (simp [*]; done)), (by first | rfl | (simp; done) | (simp [*]; done)), H', ⟨Nat.le_refl _⟩, ⟨by (with_reducible repeat (first | refine blk_drewN ?_ _ | refine blk_drew ?_ | refine blk_alloc ?_ _)); exact BK572.out⟩, ⟨by repeat (first | (with_reducible first | exact HB.out | apply below_alloc | apply pw_below_drewN | apply below_drew1 | refine below_set ?_ GE572.out) | exact HB.out)⟩⟩
  case round =>
    clear H'
    try clear p2
    obtain ⟨x9_1, x10_1, rfl, rfl, HA, HK1, BK572, HB⟩ := hrel
    cases gk with
    | zero => exact absurd HA.out (by simp [bin_search.l0])
    | succ k1 =>
      have H := HA.out
      clear HA
      simp only [bin_search.l0] at H
      by_cases c4 : x9_1 < x10_1
      · rw [if_pos c4] at H
        have c4b0 : decide (x9_1 < x10_1) = true := decide_eq_true c4
        clear c4
        obtain ⟨ji5, hji5⟩ : ∃ j_ : Int, (wrap64 ((IntKind.u64.wrap (wrap64 (x9_1 + x10_1))) / 2)) = j_ := ⟨_, rfl⟩
        replace H : (if 0 ≤ (ji5) then (if (ji5) < (l0.length : Int) then ((interco_compare.f ((rd_T89 l0 (ji5)).f0) ((rd_T89 l0 (ji5)).f1) ((rd_T89 l0 (ji5)).f2) a1_0 a1_1 a1_2).bind fun t574 => (if t574 < 0 then (bin_search.l0 k1 l0 (l0.length : Int) (wrap64 ((ji5) + 1)) x10_1 a1_0 a1_1 a1_2) else (bin_search.l0 k1 l0 (l0.length : Int) x9_1 ji5 a1_0 a1_1 a1_2))) else (none)) else (none)) = some (r1, r2) := by first | (rw [hji5] at H; exact H) | (simp only [hji5] at H ⊢; exact H)
        have hji5w : (IntKind.i64.wrap ((IntKind.u64.wrap (wrap64 (x9_1 + x10_1))) / 2)) = ji5 := (i64_w _).trans hji5
        by_cases c6 : 0 ≤ (ji5)
        · rw [if_pos c6] at H
          have c6b0 : decide (0 ≤ (ji5)) = true := decide_eq_true c6
          clear c6
          by_cases c7 : (ji5) < (l0.length : Int)
          · rw [if_pos c7] at H
            have c7b0 : decide ((ji5) < (l0.length : Int)) = true := decide_eq_true c7
            clear c7
            replace H := Option.bind_eq_some_iff.mp H
            obtain ⟨t574, A80, H⟩ := H
            replace H : (if t574 < 0 then (bin_search.l0 k1 l0 (l0.length : Int) (wrap64 ((ji5) + 1)) x10_1 a1_0 a1_1 a1_2) else (bin_search.l0 k1 l0 (l0.length : Int) x9_1 ji5 a1_0 a1_1 a1_2)) = some (r1, r2) := H
            have A8 := Aside0.mk A80
            clear A80
            by_cases c9 : t574 < 0
            · rw [if_pos c9] at H
              have c9b0 : decide (t574 < 0) = true := decide_eq_true c9
              clear c9
              have H' := Aside0.mk H
              clear H
              try go_wp2
              have n0_ := Aside0.mk (blk_drew BK572.out)
              have n1_ := Aside0.mk (below_drew1 HB.out)
              clear BK572
              clear HB
              have BK572 := n0_
              have HB := n1_
              clear n0_ n1_
              have p573 : 0 ≤ ((ji5) : Int) := of_decide_eq_true (by first | (with_reducible assumption) | assumption)
              have q573 : (ji5) < (l0.length : Int) := of_decide_eq_true (by first | (with_reducible assumption) | assumption)
              obtain ⟨ad573, e573, hx573_0, hx573_1, hx573_2⟩ := at_T89 HR0.out (ji5) p573 q573
              have hw573_2 := hx573_2
              have hw573_1 := hx573_1
              have hw573_0 := hx573_0
              cases e573
              replace hx573_0 := (HB.out.cell (World.block_lt_of_cell? w _ hx573_0)).trans hx573_0
              replace hx573_1 := (HB.out.cell (World.block_lt_of_cell? w _ hx573_1)).trans hx573_1
              replace hx573_2 := (HB.out.cell (World.block_lt_of_cell? w _ hx573_2)).trans hx573_2
              replace p573 := eq_true p573
              replace q573 := eq_true q573
              refine start_ (n := 8) (S := fun w' => w'.cell? ⟨gb572, 0, none⟩ = some (.string a1_0) ∧ w'.cell? ⟨gb572, 1, none⟩ = some (.string a1_1) ∧ w'.cell? ⟨gb572, 2, none⟩ = some (.int .i64 a1_2) ∧ w'.cell? (ad573.add (((ji5)).toNat * 3)) = some (.string ((rd_T89 l0 (ji5)).f0)) ∧ w'.cell? ⟨(ad573.add (((ji5)).toNat * 3)).block, (ad573.add (((ji5)).toNat * 3)).off + 1, none⟩ = some (.string ((rd_T89 l0 (ji5)).f1)) ∧ w'.cell? ⟨(ad573.add (((ji5)).toNat * 3)).block, (ad573.add (((ji5)).toNat * 3)).off + 2, none⟩ = some (.int .i64 ((rd_T89 l0 (ji5)).f2))) (ds := []) #[false, false, false, false, false, false, false, false] (by kernel_rfl) rfl rfl ⟨(blk_cell BK572.out 0).trans rfl, (blk_cell BK572.out 1).trans rfl, (blk_cell BK572.out 2).trans rfl, ((HB.out.cell (World.block_lt_of_cell? w _ hw573_0)).trans hw573_0), ((HB.out.cell (World.block_lt_of_cell? w _ hw573_1)).trans hw573_1), ((HB.out.cell (World.block_lt_of_cell? w _ hw573_2)).trans hw573_2)⟩ (fun hHeld => ?_); refine with_tabW bin_search.tab5 bin_search.bits5 (fun HT_ HW_ => ?_)
              generalize wr.drew = w10 at BK572 HB hx573_0 hx573_1 hx573_2 hHeld ⊢
              refine pure_ (i := 0) (N := some 24) (v := ?_) (a' := ?_) #[true, false, false, false, false, false, false, false] rfl rfl (any_of HT_.out (by kernel_rfl)) (fun _ _ _ h => h) (Or.inl ⟨by rfl, ?_⟩) ?_ ?_
              rotate_left
              · intro w'
                go_simp
                with_reducible rfl
              rotate_left
              · simp only [Act.put, List.setIfInBounds_toArray, List.set_cons_zero, List.set_cons_succ, i64_w, i32_w]
                rfl
              refine pure_ (i := 1) (N := some 25) (v := ?_) (a' := ?_) #[true, true, false, false, false, false, false, false] rfl rfl (any_of HT_.out (by kernel_rfl)) (fun _ _ _ h => h) (Or.inl ⟨by rfl, ?_⟩) ?_ ?_
              rotate_left
              · intro w'
                go_simp
                with_reducible rfl
              rotate_left
              · simp only [Act.put, List.setIfInBounds_toArray, List.set_cons_zero, List.set_cons_succ, i64_w, i32_w]
                rfl
              refine pure_ (i := 2) (N := some 26) (v := ?_) (a' := ?_) #[true, true, true, false, false, false, false, false] rfl rfl (any_of HT_.out (by kernel_rfl)) (fun _ _ _ h => h) (Or.inl ⟨by rfl, ?_⟩) ?_ ?_
              rotate_left
              · intro w'
                go_simp
                with_reducible rfl
              rotate_left
              · simp only [Act.put, List.setIfInBounds_toArray, List.set_cons_zero, List.set_cons_succ, i64_w, i32_w]
                rfl
              refine pure_ (i := 3) (N := some 27) (v := ?_) (a' := ?_) #[true, true, true, true, false, false, false, false] rfl rfl (any_of HT_.out (by kernel_rfl)) (fun _ _ _ h => h) (Or.inl ⟨by rfl, ?_⟩) ?_ ?_
              rotate_left
              · intro w'
                go_simp
                with_reducible rfl
              rotate_left
              · simp only [Act.put, List.setIfInBounds_toArray, List.set_cons_zero, List.set_cons_succ, i64_w, i32_w]
                rfl
              refine take_ (i := 4) (N := some 28) (v := ?_) (a' := ?_) #[true, true, true, true, true, false, false, false] rfl rfl (take_ofW HT_.out HW_.out (by kernel_rfl)) (fun _ _ _ h => h) (Or.inl ⟨by rfl, ?_⟩) hHeld ?_ ?_
              rotate_left
              · rintro w' ⟨s0, s1, s2, s3, s4, s5⟩
                go_simp
                with_reducible rfl
              rotate_left
              · simp only [Act.put, List.setIfInBounds_toArray, List.set_cons_zero, List.set_cons_succ, i64_w, i32_w]
                rfl
              refine take_ (i := 5) (N := some 29) (v := ?_) (a' := ?_) #[true, true, true, true, true, true, false, false] rfl rfl (take_ofW HT_.out HW_.out (by kernel_rfl)) (fun _ _ _ h => h) (Or.inl ⟨by rfl, ?_⟩) hHeld ?_ ?_
              rotate_left
              · rintro w' ⟨s0, s1, s2, s3, s4, s5⟩
                go_simp
                with_reducible rfl
              rotate_left
              · simp only [Act.put, List.setIfInBounds_toArray, List.set_cons_zero, List.set_cons_succ, i64_w, i32_w]
                rfl
              refine one_ (i := 6) (N := some 30) #[true, true, true, true, true, true, true, false] rfl rfl (one_of HT_.out (by kernel_rfl)) (by decide) (fun K hK => ?_)
              refine goesF_ Try.func100 (by kernel_rfl) rfl #[.agg #[.string ((rd_T89 l0 (ji5)).f0), .string ((rd_T89 l0 (ji5)).f1), .int .i64 ((rd_T89 l0 (ji5)).f2)], .agg #[.string a1_0, .string a1_1, .int .i64 a1_2]] (by rfl) rfl rfl rfl (by (try simp only [List.map_toArray, List.map_cons, List.map_nil]); first | done | (simp only [hji5]; rfl) | rfl | (simp only [List.length_drop, List.length_take]; rfl)) ?_
              with_reducible refine (interco_compare.calls ((rd_T89 l0 (ji5)).f0) ((rd_T89 l0 (ji5)).f1) ((rd_T89 l0 (ji5)).f2) a1_0 a1_1 a1_2 t574 _ A8.out).mono ?_
              rintro e w11 ⟨rfl, hb⟩
              refine ⟨_, rfl, ?_⟩
              have n0_ := Aside0.mk (blk_below (g := gb572) (o := .cells #[.string a1_0, .string a1_1, .int .i64 a1_2] 89 (0, 0)) (by (with_reducible repeat (first | refine blk_drewN ?_ _ | refine blk_drew ?_ | refine blk_alloc ?_ _)); exact BK572.out) hb)
              have n1_ := Aside0.mk (below_step (by repeat (first | (with_reducible first | exact HB.out | apply below_alloc | apply pw_below_drewN | apply below_drew1 | refine below_set ?_ GE572.out) | exact HB.out)) hb)
              clear BK572
              clear HB
              have BK572 := n0_
              have HB := n1_
              clear n0_ n1_
              (try clear hb)
              (try clear hb2)
              (try clear hk)
              (try clear hi)
              refine hK.out _ _ ⟨(blk_cell BK572.out 0).trans rfl, (blk_cell BK572.out 1).trans rfl, (blk_cell BK572.out 2).trans rfl, ((HB.out.cell (World.block_lt_of_cell? w _ hw573_0)).trans hw573_0), ((HB.out.cell (World.block_lt_of_cell? w _ hw573_1)).trans hw573_1), ((HB.out.cell (World.block_lt_of_cell? w _ hw573_2)).trans hw573_2)⟩ (fun hHeld => ?_)
              clear hK K
              refine norm_ (a' := ?_) ?_ ?_
              rotate_left
              · show Act.put _ (some 30) _ = _
                simp only [Act.put, List.setIfInBounds_toArray, List.set_cons_zero, List.set_cons_succ, i64_w, i32_w]
                rfl
              refine pure_ (i := 7) (N := some 31) (v := ?_) (a' := ?_) #[true, true, true, true, true, true, true, true] rfl rfl (any_of HT_.out (by kernel_rfl)) (fun _ _ _ h => h) (Or.inl ⟨by rfl, ?_⟩) ?_ ?_
              rotate_left
              · intro w'
                go_simp
                with_reducible rfl
              rotate_left
              · simp only [Act.put, List.setIfInBounds_toArray, List.set_cons_zero, List.set_cons_succ, i64_w, i32_w]
                rfl
              refine done_ (done_of HT_.out (by kernel_rfl)) ?_
              try go_wp2
              go_roundg k1
              case measure => have := HK1.out; omega
              case rel => exact ⟨(wrap64 ((ji5) + 1)), (x10_1), (by first | rfl | (simp; done) | (simp only [← hji5] <;> (first | rfl | simp)) | (simp [*]; done)), (by first | rfl | (simp; done) | (simp [*]; done)), H', ⟨by have := HK1.out; omega⟩, ⟨by (with_reducible repeat (first | refine blk_drewN ?_ _ | refine blk_drew ?_ | refine blk_alloc ?_ _)); exact BK572.out⟩, ⟨by repeat (first | (with_reducible first | exact HB.out | apply below_alloc | apply pw_below_drewN | apply below_drew1 | refine below_set ?_ GE572.out) | exact HB.out)⟩⟩
            · rw [if_neg c9] at H
              have c9b0 : decide (t574 < 0) = false := decide_eq_false c9
              clear c9
              have H' := Aside0.mk H
              clear H
              try go_wp2
              have n0_ := Aside0.mk (blk_drew BK572.out)
              have n1_ := Aside0.mk (below_drew1 HB.out)
              clear BK572
              clear HB
              have BK572 := n0_
              have HB := n1_
              clear n0_ n1_
              have p573 : 0 ≤ ((ji5) : Int) := of_decide_eq_true (by first | (with_reducible assumption) | assumption)
              have q573 : (ji5) < (l0.length : Int) := of_decide_eq_true (by first | (with_reducible assumption) | assumption)
              obtain ⟨ad573, e573, hx573_0, hx573_1, hx573_2⟩ := at_T89 HR0.out (ji5) p573 q573
              have hw573_2 := hx573_2
              have hw573_1 := hx573_1
              have hw573_0 := hx573_0
              cases e573
              replace hx573_0 := (HB.out.cell (World.block_lt_of_cell? w _ hx573_0)).trans hx573_0
              replace hx573_1 := (HB.out.cell (World.block_lt_of_cell? w _ hx573_1)).trans hx573_1
              replace hx573_2 := (HB.out.cell (World.block_lt_of_cell? w _ hx573_2)).trans hx573_2
              replace p573 := eq_true p573
              replace q573 := eq_true q573
              refine start_ (n := 8) (S := fun w' => w'.cell? ⟨gb572, 0, none⟩ = some (.string a1_0) ∧ w'.cell? ⟨gb572, 1, none⟩ = some (.string a1_1) ∧ w'.cell? ⟨gb572, 2, none⟩ = some (.int .i64 a1_2) ∧ w'.cell? (ad573.add (((ji5)).toNat * 3)) = some (.string ((rd_T89 l0 (ji5)).f0)) ∧ w'.cell? ⟨(ad573.add (((ji5)).toNat * 3)).block, (ad573.add (((ji5)).toNat * 3)).off + 1, none⟩ = some (.string ((rd_T89 l0 (ji5)).f1)) ∧ w'.cell? ⟨(ad573.add (((ji5)).toNat * 3)).block, (ad573.add (((ji5)).toNat * 3)).off + 2, none⟩ = some (.int .i64 ((rd_T89 l0 (ji5)).f2))) (ds := []) #[false, false, false, false, false, false, false, false] (by kernel_rfl) rfl rfl ⟨(blk_cell BK572.out 0).trans rfl, (blk_cell BK572.out 1).trans rfl, (blk_cell BK572.out 2).trans rfl, ((HB.out.cell (World.block_lt_of_cell? w _ hw573_0)).trans hw573_0), ((HB.out.cell (World.block_lt_of_cell? w _ hw573_1)).trans hw573_1), ((HB.out.cell (World.block_lt_of_cell? w _ hw573_2)).trans hw573_2)⟩ (fun hHeld => ?_); refine with_tabW bin_search.tab5 bin_search.bits5 (fun HT_ HW_ => ?_)
              generalize wr.drew = w12 at BK572 HB hx573_0 hx573_1 hx573_2 hHeld ⊢
              refine pure_ (i := 0) (N := some 24) (v := ?_) (a' := ?_) #[true, false, false, false, false, false, false, false] rfl rfl (any_of HT_.out (by kernel_rfl)) (fun _ _ _ h => h) (Or.inl ⟨by rfl, ?_⟩) ?_ ?_
              rotate_left
              · intro w'
                go_simp
                with_reducible rfl
              rotate_left
              · simp only [Act.put, List.setIfInBounds_toArray, List.set_cons_zero, List.set_cons_succ, i64_w, i32_w]
                rfl
              refine pure_ (i := 1) (N := some 25) (v := ?_) (a' := ?_) #[true, true, false, false, false, false, false, false] rfl rfl (any_of HT_.out (by kernel_rfl)) (fun _ _ _ h => h) (Or.inl ⟨by rfl, ?_⟩) ?_ ?_
              rotate_left
              · intro w'
                go_simp
                with_reducible rfl
              rotate_left
              · simp only [Act.put, List.setIfInBounds_toArray, List.set_cons_zero, List.set_cons_succ, i64_w, i32_w]
                rfl
              refine pure_ (i := 2) (N := some 26) (v := ?_) (a' := ?_) #[true, true, true, false, false, false, false, false] rfl rfl (any_of HT_.out (by kernel_rfl)) (fun _ _ _ h => h) (Or.inl ⟨by rfl, ?_⟩) ?_ ?_
              rotate_left
              · intro w'
                go_simp
                with_reducible rfl
              rotate_left
              · simp only [Act.put, List.setIfInBounds_toArray, List.set_cons_zero, List.set_cons_succ, i64_w, i32_w]
                rfl
              refine pure_ (i := 3) (N := some 27) (v := ?_) (a' := ?_) #[true, true, true, true, false, false, false, false] rfl rfl (any_of HT_.out (by kernel_rfl)) (fun _ _ _ h => h) (Or.inl ⟨by rfl, ?_⟩) ?_ ?_
              rotate_left
              · intro w'
                go_simp
                with_reducible rfl
              rotate_left
              · simp only [Act.put, List.setIfInBounds_toArray, List.set_cons_zero, List.set_cons_succ, i64_w, i32_w]
                rfl
              refine take_ (i := 4) (N := some 28) (v := ?_) (a' := ?_) #[true, true, true, true, true, false, false, false] rfl rfl (take_ofW HT_.out HW_.out (by kernel_rfl)) (fun _ _ _ h => h) (Or.inl ⟨by rfl, ?_⟩) hHeld ?_ ?_
              rotate_left
              · rintro w' ⟨s0, s1, s2, s3, s4, s5⟩
                go_simp
                with_reducible rfl
              rotate_left
              · simp only [Act.put, List.setIfInBounds_toArray, List.set_cons_zero, List.set_cons_succ, i64_w, i32_w]
                rfl
              refine take_ (i := 5) (N := some 29) (v := ?_) (a' := ?_) #[true, true, true, true, true, true, false, false] rfl rfl (take_ofW HT_.out HW_.out (by kernel_rfl)) (fun _ _ _ h => h) (Or.inl ⟨by rfl, ?_⟩) hHeld ?_ ?_
              rotate_left
              · rintro w' ⟨s0, s1, s2, s3, s4, s5⟩
                go_simp
                with_reducible rfl
              rotate_left
              · simp only [Act.put, List.setIfInBounds_toArray, List.set_cons_zero, List.set_cons_succ, i64_w, i32_w]
                rfl
              refine one_ (i := 6) (N := some 30) #[true, true, true, true, true, true, true, false] rfl rfl (one_of HT_.out (by kernel_rfl)) (by decide) (fun K hK => ?_)
              refine goesF_ Try.func100 (by kernel_rfl) rfl #[.agg #[.string ((rd_T89 l0 (ji5)).f0), .string ((rd_T89 l0 (ji5)).f1), .int .i64 ((rd_T89 l0 (ji5)).f2)], .agg #[.string a1_0, .string a1_1, .int .i64 a1_2]] (by rfl) rfl rfl rfl (by (try simp only [List.map_toArray, List.map_cons, List.map_nil]); first | done | (simp only [hji5]; rfl) | rfl | (simp only [List.length_drop, List.length_take]; rfl)) ?_
              with_reducible refine (interco_compare.calls ((rd_T89 l0 (ji5)).f0) ((rd_T89 l0 (ji5)).f1) ((rd_T89 l0 (ji5)).f2) a1_0 a1_1 a1_2 t574 _ A8.out).mono ?_
              rintro e w13 ⟨rfl, hb⟩
              refine ⟨_, rfl, ?_⟩
              have n0_ := Aside0.mk (blk_below (g := gb572) (o := .cells #[.string a1_0, .string a1_1, .int .i64 a1_2] 89 (0, 0)) (by (with_reducible repeat (first | refine blk_drewN ?_ _ | refine blk_drew ?_ | refine blk_alloc ?_ _)); exact BK572.out) hb)
              have n1_ := Aside0.mk (below_step (by repeat (first | (with_reducible first | exact HB.out | apply below_alloc | apply pw_below_drewN | apply below_drew1 | refine below_set ?_ GE572.out) | exact HB.out)) hb)
              clear BK572
              clear HB
              have BK572 := n0_
              have HB := n1_
              clear n0_ n1_
              (try clear hb)
              (try clear hb2)
              (try clear hk)
              (try clear hi)
              refine hK.out _ _ ⟨(blk_cell BK572.out 0).trans rfl, (blk_cell BK572.out 1).trans rfl, (blk_cell BK572.out 2).trans rfl, ((HB.out.cell (World.block_lt_of_cell? w _ hw573_0)).trans hw573_0), ((HB.out.cell (World.block_lt_of_cell? w _ hw573_1)).trans hw573_1), ((HB.out.cell (World.block_lt_of_cell? w _ hw573_2)).trans hw573_2)⟩ (fun hHeld => ?_)
              clear hK K
              refine norm_ (a' := ?_) ?_ ?_
              rotate_left
              · show Act.put _ (some 30) _ = _
                simp only [Act.put, List.setIfInBounds_toArray, List.set_cons_zero, List.set_cons_succ, i64_w, i32_w]
                rfl
              refine pure_ (i := 7) (N := some 31) (v := ?_) (a' := ?_) #[true, true, true, true, true, true, true, true] rfl rfl (any_of HT_.out (by kernel_rfl)) (fun _ _ _ h => h) (Or.inl ⟨by rfl, ?_⟩) ?_ ?_
              rotate_left
              · intro w'
                go_simp
                with_reducible rfl
              rotate_left
              · simp only [Act.put, List.setIfInBounds_toArray, List.set_cons_zero, List.set_cons_succ, i64_w, i32_w]
                rfl
              refine done_ (done_of HT_.out (by kernel_rfl)) ?_
              try go_wp2
              go_roundg k1
              case measure => have := HK1.out; omega
              case rel => exact ⟨(x9_1), (ji5), (by first | rfl | (simp; done) | (simp [*]; done)), (by first | rfl | (simp; done) | (simp only [← hji5] <;> (first | rfl | simp)) | (simp [*]; done)), H', ⟨by have := HK1.out; omega⟩, ⟨by (with_reducible repeat (first | refine blk_drewN ?_ _ | refine blk_drew ?_ | refine blk_alloc ?_ _)); exact BK572.out⟩, ⟨by repeat (first | (with_reducible first | exact HB.out | apply below_alloc | apply pw_below_drewN | apply below_drew1 | refine below_set ?_ GE572.out) | exact HB.out)⟩⟩
          · rw [if_neg c7] at H
            exact absurd H (by simp)
        · rw [if_neg c6] at H
          exact absurd H (by simp)
      · rw [if_neg c4] at H
        have c4b0 : decide (x9_1 < x10_1) = false := decide_eq_false c4
        clear c4
        by_cases c14 : x9_1 < (l0.length : Int)
        · rw [if_pos c14] at H
          have c14b0 : decide (x9_1 < (l0.length : Int)) = true := decide_eq_true c14
          clear c14
          by_cases c15 : 0 ≤ x9_1
          · rw [if_pos c15] at H
            have c15b0 : decide (0 ≤ x9_1) = true := decide_eq_true c15
            clear c15
            by_cases c16 : x9_1 < (l0.length : Int)
            · rw [if_pos c16] at H
              have c16b0 : decide (x9_1 < (l0.length : Int)) = true := decide_eq_true c16
              clear c16
              replace H := Option.bind_eq_some_iff.mp H
              obtain ⟨t576, A170, H⟩ := H
              replace H : (some (x9_1, (t576 == 0))) = some (r1, r2) := H
              have A17 := Aside0.mk A170
              clear A170
              simp only [Option.some.injEq, Prod.mk.injEq] at H
              obtain ⟨rfl, rfl⟩ := H
              try go_wp2
              have n0_ := Aside0.mk (blk_drew BK572.out)
              have n1_ := Aside0.mk (below_drew1 HB.out)
              clear BK572
              clear HB
              have BK572 := n0_
              have HB := n1_
              clear n0_ n1_
              have p575 : 0 ≤ (x9_1 : Int) := of_decide_eq_true (by first | (with_reducible assumption) | assumption)
              have q575 : x9_1 < (l0.length : Int) := of_decide_eq_true (by first | (with_reducible assumption) | assumption)
              obtain ⟨ad575, e575, hx575_0, hx575_1, hx575_2⟩ := at_T89 HR0.out x9_1 p575 q575
              have hw575_2 := hx575_2
              have hw575_1 := hx575_1
              have hw575_0 := hx575_0
              cases e575
              replace hx575_0 := (HB.out.cell (World.block_lt_of_cell? w _ hx575_0)).trans hx575_0
              replace hx575_1 := (HB.out.cell (World.block_lt_of_cell? w _ hx575_1)).trans hx575_1
              replace hx575_2 := (HB.out.cell (World.block_lt_of_cell? w _ hx575_2)).trans hx575_2
              replace p575 := eq_true p575
              replace q575 := eq_true q575
              refine start_ (n := 16) (S := fun w' => w'.cell? ⟨gb572, 0, none⟩ = some (.string a1_0) ∧ w'.cell? ⟨gb572, 1, none⟩ = some (.string a1_1) ∧ w'.cell? ⟨gb572, 2, none⟩ = some (.int .i64 a1_2) ∧ w'.cell? (ad575.add ((x9_1).toNat * 3)) = some (.string ((rd_T89 l0 x9_1).f0)) ∧ w'.cell? ⟨(ad575.add ((x9_1).toNat * 3)).block, (ad575.add ((x9_1).toNat * 3)).off + 1, none⟩ = some (.string ((rd_T89 l0 x9_1).f1)) ∧ w'.cell? ⟨(ad575.add ((x9_1).toNat * 3)).block, (ad575.add ((x9_1).toNat * 3)).off + 2, none⟩ = some (.int .i64 ((rd_T89 l0 x9_1).f2))) (ds := []) #[false, false, false, false, false, false, false, false, false, false, false, false, false, false, false, false] (by kernel_rfl) rfl rfl ⟨(blk_cell BK572.out 0).trans rfl, (blk_cell BK572.out 1).trans rfl, (blk_cell BK572.out 2).trans rfl, ((HB.out.cell (World.block_lt_of_cell? w _ hw575_0)).trans hw575_0), ((HB.out.cell (World.block_lt_of_cell? w _ hw575_1)).trans hw575_1), ((HB.out.cell (World.block_lt_of_cell? w _ hw575_2)).trans hw575_2)⟩ (fun hHeld => ?_); refine with_tabW bin_search.tab8 bin_search.bits8 (fun HT_ HW_ => ?_)
              generalize wr.drew = w18 at BK572 HB hx575_0 hx575_1 hx575_2 hHeld ⊢
              refine pure_ (i := 0) (N := some 35) (v := ?_) (a' := ?_) #[true, false, false, false, false, false, false, false, false, false, false, false, false, false, false, false] rfl rfl (any_of HT_.out (by kernel_rfl)) (fun _ _ _ h => h) (Or.inl ⟨by rfl, ?_⟩) ?_ ?_
              rotate_left
              · intro w'
                go_simp
                with_reducible rfl
              rotate_left
              · simp only [Act.put, List.setIfInBounds_toArray, List.set_cons_zero, List.set_cons_succ, i64_w, i32_w]
                rfl
              refine pure_ (i := 1) (N := some 36) (v := ?_) (a' := ?_) #[true, true, false, false, false, false, false, false, false, false, false, false, false, false, false, false] rfl rfl (any_of HT_.out (by kernel_rfl)) (fun _ _ _ h => h) (Or.inl ⟨by rfl, ?_⟩) ?_ ?_
              rotate_left
              · intro w'
                go_simp
                with_reducible rfl
              rotate_left
              · simp only [Act.put, List.setIfInBounds_toArray, List.set_cons_zero, List.set_cons_succ, i64_w, i32_w]
                rfl
              refine pure_ (i := 2) (N := some 37) (v := ?_) (a' := ?_) #[true, true, true, false, false, false, false, false, false, false, false, false, false, false, false, false] rfl rfl (any_of HT_.out (by kernel_rfl)) (fun _ _ _ h => h) (Or.inl ⟨by rfl, ?_⟩) ?_ ?_
              rotate_left
              · intro w'
                go_simp
                with_reducible rfl
              rotate_left
              · simp only [Act.put, List.setIfInBounds_toArray, List.set_cons_zero, List.set_cons_succ, i64_w, i32_w]
                rfl
              refine pure_ (i := 3) (N := some 38) (v := ?_) (a' := ?_) #[true, true, true, true, false, false, false, false, false, false, false, false, false, false, false, false] rfl rfl (any_of HT_.out (by kernel_rfl)) (fun _ _ _ h => h) (Or.inl ⟨by rfl, ?_⟩) ?_ ?_
              rotate_left
              · intro w'
                go_simp
                with_reducible rfl
              rotate_left
              · simp only [Act.put, List.setIfInBounds_toArray, List.set_cons_zero, List.set_cons_succ, i64_w, i32_w]
                rfl
              refine pure_ (i := 4) (N := some 39) (v := ?_) (a' := ?_) #[true, true, true, true, true, false, false, false, false, false, false, false, false, false, false, false] rfl rfl (any_of HT_.out (by kernel_rfl)) (fun _ _ _ h => h) (Or.inl ⟨by rfl, ?_⟩) ?_ ?_
              rotate_left
              · intro w'
                go_simp
                with_reducible rfl
              rotate_left
              · simp only [Act.put, List.setIfInBounds_toArray, List.set_cons_zero, List.set_cons_succ, i64_w, i32_w]
                rfl
              refine pure_ (i := 5) (N := some 40) (v := ?_) (a' := ?_) #[true, true, true, true, true, true, false, false, false, false, false, false, false, false, false, false] rfl rfl (any_of HT_.out (by kernel_rfl)) (fun _ _ _ h => h) (Or.inl ⟨by rfl, ?_⟩) ?_ ?_
              rotate_left
              · intro w'
                go_simp
                with_reducible rfl
              rotate_left
              · simp only [Act.put, List.setIfInBounds_toArray, List.set_cons_zero, List.set_cons_succ, i64_w, i32_w]
                rfl
              refine pure_ (i := 6) (N := some 41) (v := ?_) (a' := ?_) #[true, true, true, true, true, true, true, false, false, false, false, false, false, false, false, false] rfl rfl (any_of HT_.out (by kernel_rfl)) (fun _ _ _ h => h) (Or.inl ⟨by rfl, ?_⟩) ?_ ?_
              rotate_left
              · intro w'
                go_simp
                with_reducible rfl
              rotate_left
              · simp only [Act.put, List.setIfInBounds_toArray, List.set_cons_zero, List.set_cons_succ, i64_w, i32_w]
                rfl
              refine pure_ (i := 7) (N := some 42) (v := ?_) (a' := ?_) #[true, true, true, true, true, true, true, true, false, false, false, false, false, false, false, false] rfl rfl (any_of HT_.out (by kernel_rfl)) (fun _ _ _ h => h) (Or.inl ⟨by rfl, ?_⟩) ?_ ?_
              rotate_left
              · intro w'
                go_simp
                with_reducible rfl
              rotate_left
              · simp only [Act.put, List.setIfInBounds_toArray, List.set_cons_zero, List.set_cons_succ, i64_w, i32_w]
                rfl
              refine pure_ (i := 8) (N := some 43) (v := ?_) (a' := ?_) #[true, true, true, true, true, true, true, true, true, false, false, false, false, false, false, false] rfl rfl (any_of HT_.out (by kernel_rfl)) (fun _ _ _ h => h) (Or.inl ⟨by rfl, ?_⟩) ?_ ?_
              rotate_left
              · intro w'
                go_simp
                with_reducible rfl
              rotate_left
              · simp only [Act.put, List.setIfInBounds_toArray, List.set_cons_zero, List.set_cons_succ, i64_w, i32_w]
                rfl
              refine take_ (i := 9) (N := some 44) (v := ?_) (a' := ?_) #[true, true, true, true, true, true, true, true, true, true, false, false, false, false, false, false] rfl rfl (take_ofW HT_.out HW_.out (by kernel_rfl)) (fun _ _ _ h => h) (Or.inl ⟨by rfl, ?_⟩) hHeld ?_ ?_
              rotate_left
              · rintro w' ⟨s0, s1, s2, s3, s4, s5⟩
                go_simp
                with_reducible rfl
              rotate_left
              · simp only [Act.put, List.setIfInBounds_toArray, List.set_cons_zero, List.set_cons_succ, i64_w, i32_w]
                rfl
              refine take_ (i := 10) (N := some 45) (v := ?_) (a' := ?_) #[true, true, true, true, true, true, true, true, true, true, true, false, false, false, false, false] rfl rfl (take_ofW HT_.out HW_.out (by kernel_rfl)) (fun _ _ _ h => h) (Or.inl ⟨by rfl, ?_⟩) hHeld ?_ ?_
              rotate_left
              · rintro w' ⟨s0, s1, s2, s3, s4, s5⟩
                go_simp
                with_reducible rfl
              rotate_left
              · simp only [Act.put, List.setIfInBounds_toArray, List.set_cons_zero, List.set_cons_succ, i64_w, i32_w]
                rfl
              refine one_ (i := 11) (N := some 46) #[true, true, true, true, true, true, true, true, true, true, true, true, false, false, false, false] rfl rfl (one_of HT_.out (by kernel_rfl)) (by decide) (fun K hK => ?_)
              refine goesF_ Try.func100 (by kernel_rfl) rfl #[.agg #[.string ((rd_T89 l0 x9_1).f0), .string ((rd_T89 l0 x9_1).f1), .int .i64 ((rd_T89 l0 x9_1).f2)], .agg #[.string a1_0, .string a1_1, .int .i64 a1_2]] (by rfl) rfl rfl rfl (by (try simp only [List.map_toArray, List.map_cons, List.map_nil]); first | done | rfl | (simp only [List.length_drop, List.length_take]; rfl)) ?_
              with_reducible refine (interco_compare.calls ((rd_T89 l0 x9_1).f0) ((rd_T89 l0 x9_1).f1) ((rd_T89 l0 x9_1).f2) a1_0 a1_1 a1_2 t576 _ A17.out).mono ?_
              rintro e w19 ⟨rfl, hb⟩
              refine ⟨_, rfl, ?_⟩
              have n0_ := Aside0.mk (blk_below (g := gb572) (o := .cells #[.string a1_0, .string a1_1, .int .i64 a1_2] 89 (0, 0)) (by (with_reducible repeat (first | refine blk_drewN ?_ _ | refine blk_drew ?_ | refine blk_alloc ?_ _)); exact BK572.out) hb)
              have n1_ := Aside0.mk (below_step (by repeat (first | (with_reducible first | exact HB.out | apply below_alloc | apply pw_below_drewN | apply below_drew1 | refine below_set ?_ GE572.out) | exact HB.out)) hb)
              clear BK572
              clear HB
              have BK572 := n0_
              have HB := n1_
              clear n0_ n1_
              (try clear hb)
              (try clear hb2)
              (try clear hk)
              (try clear hi)
              refine hK.out _ _ ⟨(blk_cell BK572.out 0).trans rfl, (blk_cell BK572.out 1).trans rfl, (blk_cell BK572.out 2).trans rfl, ((HB.out.cell (World.block_lt_of_cell? w _ hw575_0)).trans hw575_0), ((HB.out.cell (World.block_lt_of_cell? w _ hw575_1)).trans hw575_1), ((HB.out.cell (World.block_lt_of_cell? w _ hw575_2)).trans hw575_2)⟩ (fun hHeld => ?_)
              clear hK K
              refine norm_ (a' := ?_) ?_ ?_
              rotate_left
              · show Act.put _ (some 46) _ = _
                simp only [Act.put, List.setIfInBounds_toArray, List.set_cons_zero, List.set_cons_succ, i64_w, i32_w]
                rfl
              refine pure_ (i := 12) (N := some 47) (v := ?_) (a' := ?_) #[true, true, true, true, true, true, true, true, true, true, true, true, true, false, false, false] rfl rfl (any_of HT_.out (by kernel_rfl)) (fun _ _ _ h => h) (Or.inl ⟨by rfl, ?_⟩) ?_ ?_
              rotate_left
              · intro w'
                go_simp
                with_reducible rfl
              rotate_left
              · simp only [Act.put, List.setIfInBounds_toArray, List.set_cons_zero, List.set_cons_succ, i64_w, i32_w]
                rfl
              refine pure_ (i := 13) (N := some 48) (v := ?_) (a' := ?_) #[true, true, true, true, true, true, true, true, true, true, true, true, true, true, false, false] rfl rfl (any_of HT_.out (by kernel_rfl)) (fun _ _ _ h => h) (Or.inl ⟨by rfl, ?_⟩) ?_ ?_
              rotate_left
              · intro w'
                go_simp
                with_reducible rfl
              rotate_left
              · simp only [Act.put, List.setIfInBounds_toArray, List.set_cons_zero, List.set_cons_succ, i64_w, i32_w]
                rfl
              refine pure_ (i := 14) (N := some 6) (v := ?_) (a' := ?_) #[true, true, true, true, true, true, true, true, true, true, true, true, true, true, true, false] rfl rfl (any_of HT_.out (by kernel_rfl)) (fun _ _ _ h => h) (Or.inl ⟨by rfl, ?_⟩) ?_ ?_
              rotate_left
              · intro w'
                go_simp
                with_reducible rfl
              rotate_left
              · simp only [Act.put, List.setIfInBounds_toArray, List.set_cons_zero, List.set_cons_succ, i64_w, i32_w]
                rfl
              refine pure_ (i := 15) (N := some 7) (v := ?_) (a' := ?_) #[true, true, true, true, true, true, true, true, true, true, true, true, true, true, true, true] rfl rfl (any_of HT_.out (by kernel_rfl)) (fun _ _ _ h => h) (Or.inl ⟨by rfl, ?_⟩) ?_ ?_
              rotate_left
              · intro w'
                go_simp
                with_reducible rfl
              rotate_left
              · simp only [Act.put, List.setIfInBounds_toArray, List.set_cons_zero, List.set_cons_succ, i64_w, i32_w]
                rfl
              refine done_ (done_of HT_.out (by kernel_rfl)) ?_
              try go_wp2
              go_ret2
              exact ⟨by first | rfl | (simp [errW_none, errW_some] <;> rfl) | (simp [*, errW_none, errW_some] <;> rfl), by repeat (first | (with_reducible first | exact HB.out | apply below_alloc | apply pw_below_drewN | apply below_drew1 | refine below_set ?_ GE572.out) | exact HB.out)⟩
            · rw [if_neg c16] at H
              exact absurd H (by simp)
          · rw [if_neg c15] at H
            exact absurd H (by simp)
        · rw [if_neg c14] at H
          have c14b0 : decide (x9_1 < (l0.length : Int)) = false := decide_eq_false c14
          clear c14
          simp only [Option.some.injEq, Prod.mk.injEq] at H
          obtain ⟨rfl, rfl⟩ := H
          try go_wp2
          have n0_ := Aside0.mk (blk_drew BK572.out)
          have n1_ := Aside0.mk (below_drew1 HB.out)
          clear BK572
          clear HB
          have BK572 := n0_
          have HB := n1_
          clear n0_ n1_
          refine start_ (n := 16) (S := fun w' => True) (ds := []) #[false, false, false, false, false, false, false, false, false, false, false, false, false, false, false, false] (by kernel_rfl) rfl rfl trivial (fun hHeld => ?_); refine with_tabW bin_search.tab8 bin_search.bits8 (fun HT_ HW_ => ?_)
          generalize wr.drew = w20 at BK572 HB hHeld ⊢
          refine pure_ (i := 0) (N := some 35) (v := ?_) (a' := ?_) #[true, false, false, false, false, false, false, false, false, false, false, false, false, false, false, false] rfl rfl (any_of HT_.out (by kernel_rfl)) (fun _ _ _ h => h) (Or.inl ⟨by rfl, ?_⟩) ?_ ?_
          rotate_left
          · intro w'
            go_simp
            with_reducible rfl
          rotate_left
          · simp only [Act.put, List.setIfInBounds_toArray, List.set_cons_zero, List.set_cons_succ, i64_w, i32_w]
            rfl
          refine pure_ (i := 1) (N := some 36) (v := ?_) (a' := ?_) #[true, true, false, false, false, false, false, false, false, false, false, false, false, false, false, false] rfl rfl (any_of HT_.out (by kernel_rfl)) (fun _ _ _ h => h) (Or.inl ⟨by rfl, ?_⟩) ?_ ?_
          rotate_left
          · intro w'
            go_simp
            with_reducible rfl
          rotate_left
          · simp only [Act.put, List.setIfInBounds_toArray, List.set_cons_zero, List.set_cons_succ, i64_w, i32_w]
            rfl
          refine pure_ (i := 2) (N := some 37) (v := ?_) (a' := ?_) #[true, true, true, false, false, false, false, false, false, false, false, false, false, false, false, false] rfl rfl (any_of HT_.out (by kernel_rfl)) (fun _ _ _ h => h) (Or.inl ⟨by rfl, ?_⟩) ?_ ?_
          rotate_left
          · intro w'
            go_simp
            with_reducible rfl
          rotate_left
          · simp only [Act.put, List.setIfInBounds_toArray, List.set_cons_zero, List.set_cons_succ, i64_w, i32_w]
            rfl
          refine pure_ (i := 3) (N := some 38) (v := ?_) (a' := ?_) #[true, true, true, true, false, false, false, false, false, false, false, false, false, false, false, false] rfl rfl (any_of HT_.out (by kernel_rfl)) (fun _ _ _ h => h) (Or.inl ⟨by rfl, ?_⟩) ?_ ?_
          rotate_left
          · intro w'
            go_simp
            with_reducible rfl
          rotate_left
          · simp only [Act.put, List.setIfInBounds_toArray, List.set_cons_zero, List.set_cons_succ, i64_w, i32_w]
            rfl
          refine pure_ (i := 4) (N := some 39) (v := ?_) (a' := ?_) #[true, true, true, true, true, false, false, false, false, false, false, false, false, false, false, false] rfl rfl (any_of HT_.out (by kernel_rfl)) (fun _ _ _ h => h) (Or.inl ⟨by rfl, ?_⟩) ?_ ?_
          rotate_left
          · intro w'
            go_simp
            with_reducible rfl
          rotate_left
          · simp only [Act.put, List.setIfInBounds_toArray, List.set_cons_zero, List.set_cons_succ, i64_w, i32_w]
            rfl
          refine pure_ (i := 5) (N := some 40) (v := undef) (a' := ?_) #[true, true, true, true, true, true, false, false, false, false, false, false, false, false, false, false] rfl rfl (any_of HT_.out (by kernel_rfl)) (fun _ _ _ h => h) (Or.inr ⟨by rfl, rfl⟩) ?_ ?_
          rotate_left
          · simp only [Act.put, List.setIfInBounds_toArray, List.set_cons_zero, List.set_cons_succ, i64_w, i32_w]
            rfl
          refine pure_ (i := 6) (N := some 41) (v := undef) (a' := ?_) #[true, true, true, true, true, true, true, false, false, false, false, false, false, false, false, false] rfl rfl (any_of HT_.out (by kernel_rfl)) (fun _ _ _ h => h) (Or.inr ⟨by rfl, rfl⟩) ?_ ?_
          rotate_left
          · simp only [Act.put, List.setIfInBounds_toArray, List.set_cons_zero, List.set_cons_succ, i64_w, i32_w]
            rfl
          refine pure_ (i := 7) (N := some 42) (v := undef) (a' := ?_) #[true, true, true, true, true, true, true, true, false, false, false, false, false, false, false, false] rfl rfl (any_of HT_.out (by kernel_rfl)) (fun _ _ _ h => h) (Or.inr ⟨by rfl, rfl⟩) ?_ ?_
          rotate_left
          · simp only [Act.put, List.setIfInBounds_toArray, List.set_cons_zero, List.set_cons_succ, i64_w, i32_w]
            rfl
          refine pure_ (i := 8) (N := some 43) (v := undef) (a' := ?_) #[true, true, true, true, true, true, true, true, true, false, false, false, false, false, false, false] rfl rfl (any_of HT_.out (by kernel_rfl)) (fun _ _ _ h => h) (Or.inr ⟨by rfl, rfl⟩) ?_ ?_
          rotate_left
          · simp only [Act.put, List.setIfInBounds_toArray, List.set_cons_zero, List.set_cons_succ, i64_w, i32_w]
            rfl
          refine pure_ (i := 9) (N := some 44) (v := undef) (a' := ?_) #[true, true, true, true, true, true, true, true, true, true, false, false, false, false, false, false] rfl rfl (any_of HT_.out (by kernel_rfl)) (fun _ _ _ h => h) (Or.inr ⟨by rfl, rfl⟩) ?_ ?_
          rotate_left
          · simp only [Act.put, List.setIfInBounds_toArray, List.set_cons_zero, List.set_cons_succ, i64_w, i32_w]
            rfl
          refine pure_ (i := 10) (N := some 45) (v := undef) (a' := ?_) #[true, true, true, true, true, true, true, true, true, true, true, false, false, false, false, false] rfl rfl (any_of HT_.out (by kernel_rfl)) (fun _ _ _ h => h) (Or.inr ⟨by rfl, rfl⟩) ?_ ?_
          rotate_left
          · simp only [Act.put, List.setIfInBounds_toArray, List.set_cons_zero, List.set_cons_succ, i64_w, i32_w]
            rfl
          refine pure_ (i := 11) (N := some 46) (v := undef) (a' := ?_) #[true, true, true, true, true, true, true, true, true, true, true, true, false, false, false, false] rfl rfl (any_of HT_.out (by kernel_rfl)) (fun _ _ _ h => h) (Or.inr ⟨by rfl, rfl⟩) ?_ ?_
          rotate_left
          · simp only [Act.put, List.setIfInBounds_toArray, List.set_cons_zero, List.set_cons_succ, i64_w, i32_w]
            rfl
          refine pure_ (i := 12) (N := some 47) (v := undef) (a' := ?_) #[true, true, true, true, true, true, true, true, true, true, true, true, true, false, false, false] rfl rfl (any_of HT_.out (by kernel_rfl)) (fun _ _ _ h => h) (Or.inr ⟨by rfl, rfl⟩) ?_ ?_
          rotate_left
          · simp only [Act.put, List.setIfInBounds_toArray, List.set_cons_zero, List.set_cons_succ, i64_w, i32_w]
            rfl
          refine pure_ (i := 13) (N := some 48) (v := ?_) (a' := ?_) #[true, true, true, true, true, true, true, true, true, true, true, true, true, true, false, false] rfl rfl (any_of HT_.out (by kernel_rfl)) (fun _ _ _ h => h) (Or.inl ⟨by rfl, ?_⟩) ?_ ?_
          rotate_left
          · intro w'
            go_simp
            with_reducible rfl
          rotate_left
          · simp only [Act.put, List.setIfInBounds_toArray, List.set_cons_zero, List.set_cons_succ, i64_w, i32_w]
            rfl
          refine pure_ (i := 14) (N := some 6) (v := ?_) (a' := ?_) #[true, true, true, true, true, true, true, true, true, true, true, true, true, true, true, false] rfl rfl (any_of HT_.out (by kernel_rfl)) (fun _ _ _ h => h) (Or.inl ⟨by rfl, ?_⟩) ?_ ?_
          rotate_left
          · intro w'
            go_simp
            with_reducible rfl
          rotate_left
          · simp only [Act.put, List.setIfInBounds_toArray, List.set_cons_zero, List.set_cons_succ, i64_w, i32_w]
            rfl
          refine pure_ (i := 15) (N := some 7) (v := ?_) (a' := ?_) #[true, true, true, true, true, true, true, true, true, true, true, true, true, true, true, true] rfl rfl (any_of HT_.out (by kernel_rfl)) (fun _ _ _ h => h) (Or.inl ⟨by rfl, ?_⟩) ?_ ?_
          rotate_left
          · intro w'
            go_simp
            with_reducible rfl
          rotate_left
          · simp only [Act.put, List.setIfInBounds_toArray, List.set_cons_zero, List.set_cons_succ, i64_w, i32_w]
            rfl
          refine done_ (done_of HT_.out (by kernel_rfl)) ?_
          try go_wp2
          go_ret2
          exact ⟨by first | rfl | (simp [errW_none, errW_some] <;> rfl) | (simp [*, errW_none, errW_some] <;> rfl), by repeat (first | (with_reducible first | exact HB.out | apply below_alloc | apply pw_below_drewN | apply below_drew1 | refine below_set ?_ GE572.out) | exact HB.out)⟩

end Go.Proofs.Ytmflggbpiadkjaa.P

/- The contract of interco.insert: a pair is put where the search says. -/
namespace Go.Proofs.Ytmflggbpiadkjaa.P
open Go.RowKit Go.Proofs.YtmflggbpiadkjaaW.PrintWords Go.Proofs.YtmflggbpiadkjaaW.PrintLast Go.Proofs.YtmflggbpiadkjaaW.PrintMore
set_option linter.unusedVariables false
set_option linter.unusedSimpArgs false
theorem step_append_zero {P : Program} {ops : Array Oper} {o : Oper} {a : Act} {w : World} {K : Act → World → Prop} {Q : Exit → Act → World → Prop} {E : Prop}
    (hg : o.guard = none) (s x : Operand) (t : TypeId) (hop : o.op = Op.call { callee := Callee.builtin Builtin.append, args := #[s, x], argTypes := #[t, t] })
    (e : TypeId) (i : TypeInfo) (h1 : P.underlying t = some (.slice e)) (h2 : P.info? e = some i) (A : Option Addr) (n cap : Nat) (hle : n ≤ cap) (hs : a.eval s = .slice A n cap) (X : Value) (hx : a.eval x = X) (hsrc : Src P i.size t X 0 [] w)
    (hK : K (a.put o.dst (.slice A n cap)) w) :
    if Region.wanted o (yielded ops a.tmps) = true then Oper.wp P o a w K Q else E := by
  have hw : Region.wanted o (yielded ops a.tmps) = true := by simp [Region.wanted, hg]
  rw [if_pos hw]
  have hrun := run_append_nothing (P := P) w t t o.type e i h1 h2 A n cap hle X hsrc
  unfold Oper.wp
  simp [execOp, hop, resolve, invoke, builtin, hs, hx, hrun, Result.andThen]
  exact hK
theorem own_form {w : World} {base : Nat} {e : TypeId} {size : Nat} {v : Value} {n : Nat} {xs : List Value} (h : w.ownsRow base e size v n xs) (hn : 0 < n) : ∃ g c, v = .slice (some ⟨g, 0, none⟩) n c ∧ n ≤ c := by
  obtain ⟨h1, h2⟩ := h
  rcases h2 with ⟨rfl, h0⟩ | ⟨g, cap, cur, rfl, hg, hh, hr⟩
  · omega
  · exact ⟨g, cap, rfl, by omega⟩
theorem src_zero (w : World) (B : Option Addr) (c s : Nat) : Src Try.prog s 57 (.slice B 0 c) 0 [] w := by
  cases B with
  | none => exact Src.ofNil w Try.underlying57 c
  | some a => exact Src.ofSlice w Try.underlying57 a 0 c [] (by simp) (fun j u h => by simp at h) (fun u h => by simp at h)
def flatP : List S89 → List Value
  | [] => []
  | x :: r => .string x.f0 :: .string x.f1 :: .int .i64 x.f2 :: flatP r
theorem flatP_len (l : List S89) : (flatP l).length = l.length * 3 := by
  induction l with
  | nil => rfl
  | cons x r ih => simp only [flatP, List.length_cons, ih]; omega
theorem flatP_app (a b : List S89) : flatP (a ++ b) = flatP a ++ flatP b := by
  induction a with
  | nil => rfl
  | cons x r ih => simp [flatP, ih]
theorem flatP_one (l : List S89) : ∀ u ∈ flatP l, u.oneCell' = true := by
  induction l with
  | nil => simp [flatP]
  | cons x r ih =>
    intro u hu
    simp only [flatP, List.mem_cons] at hu
    rcases hu with rfl | rfl | rfl | hu
    · rfl
    · rfl
    · rfl
    · exact ih u hu
theorem flatP_at (l : List S89) : ∀ (j : Nat) (u : Value), (flatP l)[j]? = some u → ∃ x, l[j / 3]? = some x ∧ [Value.string x.f0, Value.string x.f1, Value.int .i64 x.f2][j % 3]? = some u := by
  induction l with
  | nil => intro j u h; simp [flatP] at h
  | cons x r ih =>
    intro j u h
    match j with
    | 0 => exact ⟨x, rfl, h⟩
    | 1 => exact ⟨x, rfl, h⟩
    | 2 => exact ⟨x, rfl, h⟩
    | j + 3 =>
      obtain ⟨y, h1, h2⟩ := ih j u h
      refine ⟨y, ?_, ?_⟩
      · rw [show (j + 3) / 3 = j / 3 + 1 by omega]; exact h1
      · rw [show (j + 3) % 3 = j % 3 by omega]; exact h2
theorem flatP_cells {w : World} {ad : Addr} {l : List S89} (h : Kd.C k89 w (some ad) l.length l) : ∀ j u, (flatP l)[j]? = some u → w.cell? (ad.add j) = some u := by
  intro j u hu
  obtain ⟨x, h1, h2⟩ := flatP_at l j u hu
  have hlt : j / 3 < l.length := (List.getElem?_eq_some_iff.1 h1).1
  obtain ⟨ad', e, hc⟩ := h.2.2 (by omega)
  obtain rfl : ad = ad' := Option.some.inj e
  obtain ⟨c, hcl, hK, hcell⟩ := hc _ _ h1
  obtain rfl := k89_open hK
  have := hcell (j % 3) u h2
  rw [show j / 3 * k89.sz + j % 3 = j by show j / 3 * 3 + j % 3 = j; omega] at this
  exact this
theorem flatP_take (l : List S89) (k : Nat) : flatP (l.take k) = (flatP l).take (k * 3) := by
  induction l generalizing k with
  | nil => simp [flatP]
  | cons x r ih =>
    cases k with
    | zero => simp [flatP]
    | succ k => rw [show (k + 1) * 3 = k * 3 + 3 by omega]; simp [flatP, ih]
theorem flatP_drop (l : List S89) (k : Nat) : flatP (l.drop k) = (flatP l).drop (k * 3) := by
  induction l generalizing k with
  | nil => simp [flatP]
  | cons x r ih =>
    cases k with
    | zero => simp [flatP]
    | succ k => rw [show (k + 1) * 3 = k * 3 + 3 by omega]; simp [flatP, ih]
theorem reps_flat (w : World) (base : Nat) (ok : Nat → Prop) (l : List S89) : Reps (k89.M w base ok) 3 l (flatP l) := by
  refine ⟨flatP_len l, fun j p hj => ?_⟩
  rw [← flatP_drop, show (flatP (l.drop j)).take 3 = flatP ((l.drop j).take 1) by rw [flatP_take]]
  have hlt : j < l.length := (List.getElem?_eq_some_iff.1 hj).1
  rw [List.drop_eq_getElem_cons hlt]
  have : l[j] = p := by rw [List.getElem?_eq_getElem hlt] at hj; exact Option.some.inj hj
  rw [this]
  exact k89_mkM w base ok p
theorem RP_flat {w : World} {base n : Nat} {v : Value} {l : List S89} (hn : l.length = n) (h : w.ownsRow base 89 3 v n (flatP l)) : Kd.R k89 89 w base (fun _ => True) v l := by
  subst hn
  exact ⟨fun _ _ => trivial, flatP l, h, reps_flat w base _ l⟩
set_option maxHeartbeats 4000000 in
set_option maxRecDepth 1000000 in
theorem put_lt (ad : Addr) (c0 : Nat) (l : List S89) (t0 t1 : ByteArray) (t2 : Int) (k kr : Nat) (bb : Bool) (w : World) (hr0 : Kd.C k89 w (some ad) l.length l) (hc0 : l.length ≤ c0) (hl : l.length ≤ 1000000) (hlt : k < l.length) (hs : bin_search.f kr l t0 t1 t2 = some ((k : Int), bb)) :
    Calls Try.prog 88 #[.slice (some ad) l.length c0, .agg #[.string t0, .string t1, .int .i64 t2]] w fun e w' => ∃ v0_ : Value, e = .returned (v0_) ∧ Kd.R k89 89 w' w.heap.size (fun _ => True) v0_ (l.take k ++ [⟨t0, t1, t2⟩] ++ l.drop k) ∧ Below w.heap.size w w' := by
  have HS := Aside0.mk hs
  have HC := Aside0.mk hr0
  clear hs hr0
  have hu89 := Try.underlying89
  obtain ⟨i0, hi0, hz0, hz1, hz2⟩ := info_parts info89
  go_enter Try.func88, Try.ntmps88
  go_upto_region 1 with (fail)
  refine with_world (P := fun x => Code.wp _ _ _ _ x) _ ?_
  intro w0 hw
  have BK0 := Aside0.mk (show w0.heap[w.heap.size]? = some (.cells #[.string t0, .string t1, .int .i64 t2] 89 (0, 0)) from by rw [hw]; exact blk_new _ _)
  have HB0 := Aside0.mk (show Below w.heap.size w w0 from by rw [hw]; exact below_alloc (Below.refl _ _) _)
  clear hw
  obtain ⟨g, hg⟩ : ∃ g, w.heap.size = g := ⟨_, rfl⟩
  have HG := Aside0.mk hg
  rw [hg] at BK0 ⊢
  clear hg
  have b0_0 := (blk_cell BK0.out 0).trans rfl
  have b0_1 := (blk_cell BK0.out 1).trans rfl
  have b0_2 := (blk_cell BK0.out 2).trans rfl
  go_upto_region 2 with (first | (go_at_call 99; (refine (bin_search.calls kr (some ad) c0 l t0 t1 t2 (k : Int) bb w0 (Kd.C_below HC.out HB0.out) hc0 HS.out).mono ?_); rintro e_ w1 ⟨rfl, hb_⟩; have HB := Aside0.mk (below_then HB0.out HB0.out.size hb_); have BK := Aside0.mk (blk_below BK0.out hb_); have hb1_ := Aside0.mk hb_; clear hb_))
  clear b0_0 b0_1 b0_2
  have b0 := (blk_cell BK.out 0).trans rfl
  have b1 := (blk_cell BK.out 1).trans rfl
  have b2 := (blk_cell BK.out 2).trans rfl
  have HR := Aside0.mk (Kd.C_below HC.out HB.out)
  have hkc : k ≤ c0 := by omega
  have hic : Int.toNat (k : Int) = k := Int.toNat_natCast k
  have hl2 : (l.length : Int) ≤ 1000000 := by omega
  have d1 : decide ((k : Int) < (l.length : Int)) = true := decide_eq_true (by omega)
  have d2 : decide (k < l.length) = true := decide_eq_true hlt
  have p0 : (0 : Int) ≤ (k : Int) := by omega
  have p1 : (k : Int) < (l.length : Int) := by omega
  have hne : ¬ c0 = k := by omega
  have hkk : k ≤ l.length := by omega
  have o1 := Aside0.mk (show (flatP (l.take k)).length = k * 3 by rw [flatP_len, List.length_take]; omega)
  have o2 := Aside0.mk (fun (m : Nat) => show ∀ b, some ad = some b → ∀ j u, (flatP (l.take k))[j]? = some u → ((w1.drewN m).alloc (.cells #[.string t0, .string t1, .int .i64 t2] 89)).cell? (b.add j) = some u from fun b e j u hu => by
    obtain rfl := Option.some.inj e
    have hC : Kd.C k89 ((w1.drewN m).alloc (.cells #[.string t0, .string t1, .int .i64 t2] 89)) (some ad) l.length l := Kd.C_below HR.out (below_alloc (pw_below_drewN (Below.refl _ _) m) _)
    rw [flatP_take] at hu
    exact flatP_cells hC j u ((List.getElem?_take_of_lt (by have := (List.getElem?_eq_some_iff.1 hu).1; simp at this; omega)).symm.trans hu))
  have o3 := Aside0.mk (fun (m : Nat) => show ∀ j u, [Value.string t0, Value.string t1, Value.int .i64 t2][j]? = some u → ((w1.drewN m).alloc (.cells #[.string t0, .string t1, .int .i64 t2] 89)).cell? ((⟨w1.heap.size, 0, none⟩ : Addr).add j) = some u from fun j u hu => by
    have hh : ((w1.drewN m).alloc (.cells #[.string t0, .string t1, .int .i64 t2] 89)).heap[w1.heap.size]? = some (.cells #[.string t0, .string t1, .int .i64 t2] 89 (0, 0)) := blk_new (w1.drewN m) _
    have := blk_cell hh j
    rw [show (⟨w1.heap.size, 0, none⟩ : Addr).add j = ⟨w1.heap.size, j, none⟩ by simp [Addr.add, eq_comm]]
    rw [this]; simpa using hu)
  have hbw := Aside0.mk (fun (m : Nat) => show Below w.heap.size w ((w1.drewN m).alloc (.cells #[.string t0, .string t1, .int .i64 t2] 89)) from HB.out.trans ((below_alloc (pw_below_drewN (Below.refl w1.heap.size w1) m) _).mono HB.out.size))
  have hbw1 := Aside0.mk (fun (m : Nat) => show Below w1.heap.size w1 ((w1.drewN m).alloc (.cells #[.string t0, .string t1, .int .i64 t2] 89)) from below_alloc (pw_below_drewN (Below.refl w1.heap.size w1) m) _)
  go_region_law (first | (refine step_append_grows rfl (.tmp 16) (.tmp 18) 57 rfl 89 i0 (.agg #[.string ⟨#[]⟩, .string ⟨#[]⟩, .int .i64 0]) 3 40 Try.underlying57 hi0 hz0 hz1 hz2 rfl (by decide) (some ad) k k (flatP (l.take k)) (by simp [Act.eval, Act.put]) (by simp) o1.out (o2.out _) ⟨w1.heap.size, 0, none⟩ 1 1 [.string t0, .string t1, .int .i64 t2] (by simp [Act.eval, Act.put]) rfl (o3.out _) (by simp [Value.oneCell']) (by omega) (by unfold maxLen; omega) (by omega) ?_; intro v1 w2 ho hg; have HO := Aside0.mk (own_weaken ho (hbw.out _).size); have HB2 := Aside0.mk (Below.grown (hbw.out _) hg (hbw.out _).size (fun k_ e_ => by simp at e_)); have HC2 := Aside0.mk (Kd.C_below HR.out (Below.grown (hbw1.out _) hg (hbw1.out _).size (fun k_ e_ => by simp at e_))); clear ho hg) | (refine step_append_lies _ rfl (.tmp 19) (.tmp 22) 57 rfl w.heap.size 89 i0 (.agg #[.string ⟨#[]⟩, .string ⟨#[]⟩, .int .i64 0]) 3 40 Try.underlying57 hi0 hz0 hz1 hz2 rfl (by decide) v1 (k + 1) (flatP (l.take k) ++ [.string t0, .string t1, .int .i64 t2]) (by simp [Act.eval, Act.put]) HO.out (ad.add (k * 3)) (l.length - k) (c0 - k) (flatP (l.drop k)) (by simp [Act.eval, Act.put]) (by rw [flatP_len, List.length_drop]) (fun j u hu => by rw [Go.Deep.add_add]; rw [flatP_drop, List.getElem?_drop] at hu; exact flatP_cells HC2.out _ u hu) (flatP_one _) (by omega) (by unfold maxLen; omega) (by omega) HB2.out.size w2.heap.size rfl ?_; intro g cap w3 ho3 hg3 _ _; have HO3 := Aside0.mk ho3; have HB3 := Aside0.mk (Below.grown HB2.out hg3 HB2.out.size (fun k_ e_ => own_base HO.out k_ e_)); clear ho3 hg3))
  go_wp2
  go_ret
  refine ⟨_, rfl, ?_, HB3.out⟩
  refine RP_flat ?_ ?_ (n := k + 1 + (l.length - k))
  · simp; omega
  · have := HO3.out
    rw [flatP_app, flatP_app]
    exact this
set_option maxHeartbeats 4000000 in
set_option maxRecDepth 1000000 in
theorem put_end (ad : Addr) (c0 : Nat) (l : List S89) (t0 t1 : ByteArray) (t2 : Int) (k kr : Nat) (bb : Bool) (w : World) (hr0 : Kd.C k89 w (some ad) l.length l) (hc0 : l.length ≤ c0) (hl : l.length ≤ 1000000) (hkl : k = l.length) (hs : bin_search.f kr l t0 t1 t2 = some ((k : Int), bb)) :
    Calls Try.prog 88 #[.slice (some ad) l.length c0, .agg #[.string t0, .string t1, .int .i64 t2]] w fun e w' => ∃ v0_ : Value, e = .returned (v0_) ∧ Kd.R k89 89 w' w.heap.size (fun _ => True) v0_ (l.take k ++ [⟨t0, t1, t2⟩] ++ l.drop k) ∧ Below w.heap.size w w' := by
  have HS := Aside0.mk hs
  have HC := Aside0.mk hr0
  clear hs hr0
  have hll : l.length ≤ k := by omega
  have hkk : k ≤ l.length := by omega
  have hkl' := Lib.hid hkl
  clear hkl
  have hu89 := Try.underlying89
  obtain ⟨i0, hi0, hz0, hz1, hz2⟩ := info_parts info89
  go_enter Try.func88, Try.ntmps88
  go_upto_region 1 with (fail)
  refine with_world (P := fun x => Code.wp _ _ _ _ x) _ ?_
  intro w0 hw
  have BK0 := Aside0.mk (show w0.heap[w.heap.size]? = some (.cells #[.string t0, .string t1, .int .i64 t2] 89 (0, 0)) from by rw [hw]; exact blk_new _ _)
  have HB0 := Aside0.mk (show Below w.heap.size w w0 from by rw [hw]; exact below_alloc (Below.refl _ _) _)
  clear hw
  obtain ⟨g, hg⟩ : ∃ g, w.heap.size = g := ⟨_, rfl⟩
  have HG := Aside0.mk hg
  rw [hg] at BK0 ⊢
  clear hg
  have b0_0 := (blk_cell BK0.out 0).trans rfl
  have b0_1 := (blk_cell BK0.out 1).trans rfl
  have b0_2 := (blk_cell BK0.out 2).trans rfl
  go_upto_region 2 with (first | (go_at_call 99; (refine (bin_search.calls kr (some ad) c0 l t0 t1 t2 (k : Int) bb w0 (Kd.C_below HC.out HB0.out) hc0 HS.out).mono ?_); rintro e_ w1 ⟨rfl, hb_⟩; have HB := Aside0.mk (below_then HB0.out HB0.out.size hb_); have BK := Aside0.mk (blk_below BK0.out hb_); have hb1_ := Aside0.mk hb_; clear hb_))
  clear b0_0 b0_1 b0_2
  have b0 := (blk_cell BK.out 0).trans rfl
  have b1 := (blk_cell BK.out 1).trans rfl
  have b2 := (blk_cell BK.out 2).trans rfl
  have HR := Aside0.mk (Kd.C_below HC.out HB.out)
  have hkc : k ≤ c0 := by omega
  have hic : Int.toNat (k : Int) = k := Int.toNat_natCast k
  have hl2 : (l.length : Int) ≤ 1000000 := by omega
  have d1 : decide ((k : Int) < (l.length : Int)) = false := decide_eq_false (by omega)
  have d2 : decide (k < l.length) = false := decide_eq_false (by omega)
  have p0 : (0 : Int) ≤ (k : Int) := by omega
  obtain ⟨B, hB⟩ : ∃ B : Option Addr, (if c0 = k then some ad else some (ad.add (k * 3))) = B := ⟨_, rfl⟩
  have o1 := Aside0.mk (show (flatP (l.take k)).length = k * 3 by rw [flatP_len, List.length_take]; omega)
  have o2 := Aside0.mk (fun (m : Nat) => show ∀ b, some ad = some b → ∀ j u, (flatP (l.take k))[j]? = some u → ((w1.drewN m).alloc (.cells #[.string t0, .string t1, .int .i64 t2] 89)).cell? (b.add j) = some u from fun b e j u hu => by
    obtain rfl := Option.some.inj e
    have hC : Kd.C k89 ((w1.drewN m).alloc (.cells #[.string t0, .string t1, .int .i64 t2] 89)) (some ad) l.length l := Kd.C_below HR.out (below_alloc (pw_below_drewN (Below.refl _ _) m) _)
    rw [flatP_take] at hu
    exact flatP_cells hC j u ((List.getElem?_take_of_lt (by have := (List.getElem?_eq_some_iff.1 hu).1; simp at this; omega)).symm.trans hu))
  have o3 := Aside0.mk (fun (m : Nat) => show ∀ j u, [Value.string t0, Value.string t1, Value.int .i64 t2][j]? = some u → ((w1.drewN m).alloc (.cells #[.string t0, .string t1, .int .i64 t2] 89)).cell? ((⟨w1.heap.size, 0, none⟩ : Addr).add j) = some u from fun j u hu => by
    have hh : ((w1.drewN m).alloc (.cells #[.string t0, .string t1, .int .i64 t2] 89)).heap[w1.heap.size]? = some (.cells #[.string t0, .string t1, .int .i64 t2] 89 (0, 0)) := blk_new (w1.drewN m) _
    have := blk_cell hh j
    rw [show (⟨w1.heap.size, 0, none⟩ : Addr).add j = ⟨w1.heap.size, j, none⟩ by simp [Addr.add, eq_comm]]
    rw [this]; simpa using hu)
  have hbw := Aside0.mk (fun (m : Nat) => show Below w.heap.size w ((w1.drewN m).alloc (.cells #[.string t0, .string t1, .int .i64 t2] 89)) from HB.out.trans ((below_alloc (pw_below_drewN (Below.refl w1.heap.size w1) m) _).mono HB.out.size))
  have hbw1 := Aside0.mk (fun (m : Nat) => show Below w1.heap.size w1 ((w1.drewN m).alloc (.cells #[.string t0, .string t1, .int .i64 t2] 89)) from below_alloc (pw_below_drewN (Below.refl w1.heap.size w1) m) _)
  go_region_law (first | (refine step_append_grows rfl (.tmp 16) (.tmp 18) 57 rfl 89 i0 (.agg #[.string ⟨#[]⟩, .string ⟨#[]⟩, .int .i64 0]) 3 40 Try.underlying57 hi0 hz0 hz1 hz2 rfl (by decide) (some ad) k k (flatP (l.take k)) (by simp [Act.eval, Act.put]) (by simp) o1.out (o2.out _) ⟨w1.heap.size, 0, none⟩ 1 1 [.string t0, .string t1, .int .i64 t2] (by simp [Act.eval, Act.put]) rfl (o3.out _) (by simp [Value.oneCell']) (by omega) (by unfold maxLen; omega) (by omega) ?_; intro v1 w2 ho hg; have HO := Aside0.mk (own_weaken ho (hbw.out _).size); have HB2 := Aside0.mk (Below.grown (hbw.out _) hg (hbw.out _).size (fun k_ e_ => by simp at e_)); have HC2 := Aside0.mk (Kd.C_below HR.out (Below.grown (hbw1.out _) hg (hbw1.out _).size (fun k_ e_ => by simp at e_))); clear ho hg) | (obtain ⟨g1, cp1, hv1, hcp1⟩ := own_form HO.out (by omega); subst hv1; refine step_append_zero rfl (.tmp 19) (.tmp 22) 57 rfl 89 i0 Try.underlying57 hi0 (some ⟨g1, 0, none⟩) (k + 1) cp1 hcp1 (by simp [Act.eval, Act.put]) (.slice B 0 (c0 - k)) (by simp [Act.eval, Act.put]) (src_zero _ _ _ _) ?_))
  go_wp2
  go_ret
  refine ⟨_, rfl, ?_, HB2.out⟩
  refine RP_flat ?_ ?_ (n := k + 1)
  · simp; omega
  · have := HO.out
    rw [flatP_app, flatP_app, List.drop_of_length_le (by omega), show flatP [] = [] from rfl, List.append_nil]
    exact this
set_option maxHeartbeats 4000000 in
set_option maxRecDepth 1000000 in
theorem put_nil  (c0 : Nat) (l : List S89) (t0 t1 : ByteArray) (t2 : Int) (k kr : Nat) (bb : Bool) (w : World) (hr0 : Kd.C k89 w none l.length l) (hc0 : l.length ≤ c0) (hl : l.length ≤ 1000000) (hkl : k = 0) (hl0 : l.length ≤ 0) (hs : bin_search.f kr l t0 t1 t2 = some ((k : Int), bb)) :
    Calls Try.prog 88 #[.slice none l.length c0, .agg #[.string t0, .string t1, .int .i64 t2]] w fun e w' => ∃ v0_ : Value, e = .returned (v0_) ∧ Kd.R k89 89 w' w.heap.size (fun _ => True) v0_ (l.take k ++ [⟨t0, t1, t2⟩] ++ l.drop k) ∧ Below w.heap.size w w' := by
  have HS := Aside0.mk hs
  have HC := Aside0.mk hr0
  clear hs hr0
  subst hkl
  have hu89 := Try.underlying89
  obtain ⟨i0, hi0, hz0, hz1, hz2⟩ := info_parts info89
  go_enter Try.func88, Try.ntmps88
  go_upto_region 1 with (fail)
  refine with_world (P := fun x => Code.wp _ _ _ _ x) _ ?_
  intro w0 hw
  have BK0 := Aside0.mk (show w0.heap[w.heap.size]? = some (.cells #[.string t0, .string t1, .int .i64 t2] 89 (0, 0)) from by rw [hw]; exact blk_new _ _)
  have HB0 := Aside0.mk (show Below w.heap.size w w0 from by rw [hw]; exact below_alloc (Below.refl _ _) _)
  clear hw
  obtain ⟨g, hg⟩ : ∃ g, w.heap.size = g := ⟨_, rfl⟩
  have HG := Aside0.mk hg
  rw [hg] at BK0 ⊢
  clear hg
  have b0_0 := (blk_cell BK0.out 0).trans rfl
  have b0_1 := (blk_cell BK0.out 1).trans rfl
  have b0_2 := (blk_cell BK0.out 2).trans rfl
  go_upto_region 2 with (first | (go_at_call 99; (refine (bin_search.calls kr none c0 l t0 t1 t2 ((0 : Nat) : Int) bb w0 (Kd.C_below HC.out HB0.out) hc0 HS.out).mono ?_); rintro e_ w1 ⟨rfl, hb_⟩; have HB := Aside0.mk (below_then HB0.out HB0.out.size hb_); have BK := Aside0.mk (blk_below BK0.out hb_); have hb1_ := Aside0.mk hb_; clear hb_))
  clear b0_0 b0_1 b0_2
  have b0 := (blk_cell BK.out 0).trans rfl
  have b1 := (blk_cell BK.out 1).trans rfl
  have b2 := (blk_cell BK.out 2).trans rfl
  have hic : Int.toNat (0 : Int) = 0 := rfl
  have d1 : decide ((0 : Int) < (l.length : Int)) = false := decide_eq_false (by omega)
  have d2 : decide (0 < l.length) = false := decide_eq_false (by omega)
  have d3 : (l.length : Int) ≤ 0 := by omega
  have d4 : (0 : Int) ≤ (l.length : Int) := by omega
  have o3 := Aside0.mk (fun (m : Nat) => show ∀ j u, [Value.string t0, Value.string t1, Value.int .i64 t2][j]? = some u → ((w1.drewN m).alloc (.cells #[.string t0, .string t1, .int .i64 t2] 89)).cell? ((⟨w1.heap.size, 0, none⟩ : Addr).add j) = some u from fun j u hu => by
    have hh : ((w1.drewN m).alloc (.cells #[.string t0, .string t1, .int .i64 t2] 89)).heap[w1.heap.size]? = some (.cells #[.string t0, .string t1, .int .i64 t2] 89 (0, 0)) := blk_new (w1.drewN m) _
    have := blk_cell hh j
    rw [show (⟨w1.heap.size, 0, none⟩ : Addr).add j = ⟨w1.heap.size, j, none⟩ by simp [Addr.add, eq_comm]]
    rw [this]; simpa using hu)
  have hbw := Aside0.mk (fun (m : Nat) => show Below w.heap.size w ((w1.drewN m).alloc (.cells #[.string t0, .string t1, .int .i64 t2] 89)) from HB.out.trans ((below_alloc (pw_below_drewN (Below.refl w1.heap.size w1) m) _).mono HB.out.size))
  have hbw1 := Aside0.mk (fun (m : Nat) => show Below w1.heap.size w1 ((w1.drewN m).alloc (.cells #[.string t0, .string t1, .int .i64 t2] 89)) from below_alloc (pw_below_drewN (Below.refl w1.heap.size w1) m) _)
  go_region_law (first | (refine step_append_grows rfl (.tmp 16) (.tmp 18) 57 rfl 89 i0 (.agg #[.string ⟨#[]⟩, .string ⟨#[]⟩, .int .i64 0]) 3 40 Try.underlying57 hi0 hz0 hz1 hz2 rfl (by decide) none 0 0 [] (by simp [Act.eval, Act.put]) (fun _ => ⟨rfl, rfl⟩) rfl (fun b e => by cases e) ⟨w1.heap.size, 0, none⟩ 1 1 [.string t0, .string t1, .int .i64 t2] (by simp [Act.eval, Act.put]) rfl (o3.out _) (by simp [Value.oneCell']) (by omega) (by unfold maxLen; omega) (by omega) ?_; intro v1 w2 ho hg; have HO := Aside0.mk (own_weaken ho (hbw.out _).size); have HB2 := Aside0.mk (Below.grown (hbw.out _) hg (hbw.out _).size (fun k_ e_ => by simp at e_)); clear ho hg) | (obtain ⟨g1, cp1, hv1, hcp1⟩ := own_form HO.out (by omega); subst hv1; refine step_append_zero rfl (.tmp 19) (.tmp 22) 57 rfl 89 i0 Try.underlying57 hi0 (some ⟨g1, 0, none⟩) 1 cp1 hcp1 (by simp [Act.eval, Act.put]) (.slice none 0 c0) (by simp [Act.eval, Act.put]; try omega) (src_zero _ _ _ _) ?_))
  go_wp2
  go_ret
  have e : l = [] := List.length_eq_zero_iff.mp (by omega)
  subst e
  exact ⟨_, rfl, RP_flat rfl HO.out, HB2.out⟩
theorem insert_calls (A : Option Addr) (c0 : Nat) (l : List S89) (t0 t1 : ByteArray) (t2 : Int) (k kr : Nat) (bb : Bool) (w : World) (hr0 : Kd.C k89 w A l.length l) (hc0 : l.length ≤ c0) (hl : l.length ≤ 1000000) (hk : k ≤ l.length) (hs : bin_search.f kr l t0 t1 t2 = some ((k : Int), bb)) :
    Calls Try.prog 88 #[.slice A l.length c0, .agg #[.string t0, .string t1, .int .i64 t2]] w fun e w' => ∃ v0_ : Value, e = .returned (v0_) ∧ Kd.R k89 89 w' w.heap.size (fun _ => True) v0_ (l.take k ++ [⟨t0, t1, t2⟩] ++ l.drop k) ∧ Below w.heap.size w w' := by
  cases A with
  | some ad =>
    rcases Nat.lt_or_ge k l.length with h | h
    · exact put_lt ad c0 l t0 t1 t2 k kr bb w hr0 hc0 hl h hs
    · exact put_end ad c0 l t0 t1 t2 k kr bb w hr0 hc0 hl (by omega) hs
  | none =>
    have h0 : l.length ≤ 0 := by
      rcases Nat.eq_zero_or_pos l.length with e | e
      · omega
      · obtain ⟨ad, e', _⟩ := hr0.2.2 e
        cases e'
    exact put_nil c0 l t0 t1 t2 k kr bb w hr0 hc0 hl (by omega) h0 hs
end Go.Proofs.Ytmflggbpiadkjaa.P

/- The group of members: interco.of and inside. -/
namespace Go.Proofs.Ytmflggbpiadkjaa.P
open Go.RowKit Go.Proofs.YtmflggbpiadkjaaW.PrintWords Go.Proofs.YtmflggbpiadkjaaW.PrintLast Go.Proofs.YtmflggbpiadkjaaW.PrintMore Go.Maps Go.ChangeShapes Go.WideShapes Go.WideMaps
set_option linter.unusedVariables false
set_option linter.unusedSimpArgs false
/-- Is s among l? -/
def hasB (l : List ByteArray) (s : ByteArray) : Bool := l.any (fun a => a.toList == s.toList)
theorem bytes_ext {a b : ByteArray} (h : a.toList = b.toList) : a = b := ByteArray.ext (Array.ext' (by rw [← ByteArray.toList_eq a, ← ByteArray.toList_eq b]; exact h))
/-- Is a key inside the group? -/
def insB (l : List ByteArray) (x : S32) : Bool := hasB l x.f0 && (hasB l x.f3 && !(x.f0.toList == x.f3.toList))
/-- An element, as it lies. -/
def vR (v : Value) : Option (DataW Value × List MemPlace) := some (.held v, [])
theorem zero4 (w : World) : (zeroValue 4).run Try.prog w = .ok (.bool false) w := by kernel_rfl
theorem strKeyed : Keyed Try.prog 9 := string_keyed Try.underlying9
theorem keyS {s : ByteArray} (h : s.size ≤ maxLen) : keyOf Try.prog 9 (.string s) = some (.string s.data.toList) := keyOf_string_mk Try.underlying9 h
theorem lit_ne {a b : ByteArray} (h : a ≠ b) : Lit.string a.data.toList ≠ Lit.string b.data.toList := by
  intro h'
  simp only [Lit.string.injEq] at h'
  exact h (ByteArray.ext (Array.ext' h'))
/-- Block b is a map, and an element is true where the key is among l. -/
def MapB (w : World) (b n : Nat) (l : List ByteArray) : Prop := ∃ D : DataW Value, w.ownsMap Try.prog 9 vR b n D ∧ ∀ s : ByteArray, s.size ≤ maxLen → D.atKey (.string s.data.toList) (.held (.bool false)) = .held (.bool (hasB l s))
theorem MapB.made (w : World) : MapB (w.alloc (.map #[] 0)) w.heap.size 0 [] := ⟨_, World.ownsMap_made w _ _ _, fun _ _ => rfl⟩
theorem MapB.look {w : World} {b n : Nat} {l : List ByteArray} (h : MapB w b n l) {s : ByteArray} (hs : s.size ≤ maxLen) : (Instr.lookup 83 (.map (some b)) (.string s) false).run Try.prog w = .ok (.bool (hasB l s)) w := by
  obtain ⟨D, ho, hD⟩ := h
  obtain ⟨v, ps, hrun, hv⟩ := ho.lookup strKeyed Try.underlying83 (zero4 w) (zd := .held (.bool false)) (zp := []) rfl (keyS hs)
  rw [hrun]
  simp only [vR, Option.some.injEq, Prod.mk.injEq] at hv
  rw [hD s hs] at hv
  simp only [DataW.held.injEq] at hv
  rw [hv.1]
theorem MapB.store {w : World} {b n : Nat} {l : List ByteArray} (h : MapB w b n l) (hn : n < maxLen) {s : ByteArray} (hs : s.size ≤ maxLen) :
    ∃ w', (Instr.mapUpdate 83 (.map (some b)) (.string s) (.bool true)).run Try.prog w = .ok () w' ∧ MapB w' b (n + 1) (l ++ [s]) ∧ w.grownBy w' (some b) := by
  obtain ⟨D, ho, hD⟩ := h
  obtain ⟨w', hrun, ho', hg⟩ := ho.update strKeyed Try.underlying83 hn (val := .bool true) (d := .held (.bool true)) (ps := []) (keyS hs) rfl
  refine ⟨w', hrun, ⟨_, ho', fun t ht => ?_⟩, hg⟩
  by_cases e : t = s
  · subst e
    rw [atKey_put_same ho.isMap (strKeyed.key (keyS hs)), show hasB (l ++ [t]) t = true by simp [hasB]]
  · have hne : (s.toList == t.toList) = false := beq_eq_false_iff_ne.mpr (fun h => e (bytes_ext h.symm))
    have hh : hasB (l ++ [s]) t = hasB l t := by
      unfold hasB
      rw [List.any_append, List.any_cons, List.any_nil, hne, Bool.or_false, Bool.or_false]
    rw [atKey_put_other (lit_ne e), hD t ht, hh]
theorem MapB.move {w w' : World} {b n : Nat} {l : List ByteArray} (h : MapB w b n l) (hm : w'.heap[b]? = w.heap[b]?) : MapB w' b n l := by
  obtain ⟨D, ⟨es, clock, h1, h2⟩, hD⟩ := h
  exact ⟨D, ⟨es, clock, hm.trans h1, h2⟩, hD⟩
theorem MapB.lt {w : World} {b n : Nat} {l : List ByteArray} (h : MapB w b n l) : b < w.heap.size := by
  obtain ⟨D, ⟨es, clock, h1, h2⟩, hD⟩ := h
  exact (Array.getElem?_eq_some_iff.1 h1).1
theorem MapB.below {w w' : World} {b n : Nat} {l : List ByteArray} (h : MapB w b n l) (hb : Below w.heap.size w w') : MapB w' b n l := h.move (hb.block b h.lt)
set_option maxHeartbeats 2000000 in
set_option maxRecDepth 100000 in
theorem groupof_calls (A : Option Addr) (c : Nat) (l : List ByteArray) (w : World) (h : Kd.C Kd.string w A l.length l) (hc : l.length ≤ c) (hl : l.length ≤ 1000000) (hs : ∀ s ∈ l, s.size ≤ maxLen) :
    Calls Try.prog 71 #[.slice A l.length c] w fun e w' => ∃ b n, e = .returned (.map (some b)) ∧ MapB w' b n l ∧ w.heap.size ≤ b ∧ Below w.heap.size w w' := by
  have HC := Aside0.mk h
  have HS := Aside0.mk hs
  clear h hs
  go_enter Try.func71, Try.ntmps71
  have hmm := @run_makeMap Try.prog
  go_upto_region 2 with (fail)
  clear hmm
  refine with_world (P := fun x => Code.wp _ _ _ _ x) _ ?_
  intro w1 hw1
  have HM1 := Aside0.mk (show MapB w1 w.heap.size 0 [] from by rw [hw1]; exact MapB.made w)
  have HB1 := Aside0.mk (show Below w.heap.size w w1 from by rw [hw1]; exact below_alloc (Below.refl _ _) _)
  clear hw1
  obtain ⟨m, hm⟩ : ∃ m, w.heap.size = m := ⟨_, rfl⟩
  have HSZ := Aside0.mk hm
  rw [hm] at HM1 HB1 ⊢
  clear hm
  go_wp2
  go_loopw [5, 9, 10, 11, 12, 13, 14, 15] (fun _ v9 _ _ _ _ _ _ wr => ∃ k : Nat, k ≤ l.length ∧ v9 = .int .i64 k ∧ Aside0 (Below m w wr) ∧ Aside0 (MapB wr m k (l.take k))) (fun _ v9 _ _ _ _ _ _ _ => l.length - (intOf v9).toNat)
  case atStart => exact ⟨0, Nat.zero_le _, rfl, HB1, HM1⟩
  case round =>
    clear HB1 HM1
    obtain ⟨k, hk, rfl, HB, HM⟩ := hrel
    by_cases hlt : k < l.length
    · have hbw := HSZ.out
      obtain ⟨ad, e, q0⟩ := Kd.at_string (Kd.C_below HC.out (by rw [HSZ.out]; exact HB.out)) (k : Int) (by omega) (by omega)
      subst e
      rw [Int.toNat_natCast] at q0
      have d1 : decide ((k : Int) < (l.length : Int)) = true := decide_eq_true (by omega)
      have d2 : decide (k < l.length) = true := decide_eq_true hlt
      have p0 : (0 : Int) ≤ (k : Int) := by omega
      have p1 : (k : Int) < (l.length : Int) := by omega
      have hsk : rdOf ByteArray.empty l (k : Int) = l[k] := by simp [rdOf, hlt]
      have hsz := HS.out l[k] (List.getElem_mem hlt)
      obtain ⟨s, hs⟩ : ∃ s, rdOf ByteArray.empty l (k : Int) = s := ⟨_, rfl⟩
      rw [hs] at q0 hsk
      rw [← hsk] at hsz
      have HTK := Aside0.mk (show l.take (k + 1) = l.take k ++ [s] from by rw [List.take_add_one, List.getElem?_eq_getElem hlt, hsk]; rfl)
      clear hs hsk hbw
      obtain ⟨w5, hup, hM5, hg5⟩ := HM.out.store (by unfold maxLen; omega) hsz
      have HM5 := Aside0.mk hM5
      have HG5 := Aside0.mk hg5
      clear hM5 hg5
      go_wp2
      go_roundw
      case rel =>
        refine ⟨k + 1, by omega, by go_num, ⟨?_⟩, ⟨?_⟩⟩
        · have hb := HB.out
          exact ⟨HG5.out.os.trans hb.os, HG5.out.tape.trans hb.tape, HG5.out.output.trans hb.output, Nat.le_trans hb.size HG5.out.size, fun x hx => (HG5.out.block x (by have := hb.size; have := HSZ.out; omega) (fun e => by have := Option.some.inj e; omega)).trans (hb.block x hx)⟩
        · rw [HTK.out]
          exact HM5.out
      case measure => simp [intOf]; omega
    · obtain rfl : k = l.length := by omega
      have d1 : decide ((l.length : Int) < (l.length : Int)) = false := decide_eq_false (by omega)
      go_wp2
      go_ret
      have hM := HM.out
      rw [List.take_length] at hM
      exact ⟨m, _, rfl, hM, by have := HSZ.out; omega, by rw [HSZ.out]; exact HB.out⟩
theorem MapB.tells {w : World} {b n : Nat} {l : List ByteArray} (h : MapB w b n l) : ∃ es clk, w.heap[b]? = some (.map es clk) ∧ ∀ W : World, W.heap[b]? = some (.map es clk) → MapB W b n l := by
  obtain ⟨D, ⟨es, clk, h1, h2⟩, hD⟩ := h
  exact ⟨es, clk, h1, fun W hW => ⟨D, ⟨es, clk, hW, h2⟩, hD⟩⟩
theorem map_far {w : World} {g : Nat} {es : Array MapEntry} {clk : Nat} (h : w.heap[g]? = some (.map es clk)) {p : Addr} (hp : g ≠ p.block) (u : Value) : (w.setCell p u).heap[g]? = some (.map es clk) := (Below.heap_setCell w p u g hp).trans h
theorem R_ne_map {α : Type} {d : Kd α} {e : Nat} {w : World} {base : Nat} {ok : Nat → Prop} {v : Value} {xs : List α} (h : d.R e w base ok v xs) {g : Nat} {es : Array MapEntry} {clk : Nat} (hb : w.heap[g]? = some (.map es clk)) : some g ≠ v.ownBlock := by
  intro hk
  obtain ⟨cs, hc⟩ := Kd.R_typed h g hk.symm
  rw [hb] at hc
  cases hc
theorem rd_mem {l : List S34} {i : Int} (h0 : 0 ≤ i) (h1 : i < (l.length : Int)) : rd_T34 l i ∈ l := by
  obtain ⟨n, rfl⟩ := Int.eq_ofNat_of_zero_le h0
  have hn : n < l.length := by omega
  have e : rd_T34 l (n : Int) = l[n] := by simp [rd_T34, hn]
  show rd_T34 l (n : Int) ∈ l
  rw [e]
  exact List.getElem_mem hn
def interco_inside.f (l : List ByteArray) (a0 : ByteArray) (a1 : ByteArray) (a2 : ByteArray) (a3 : ByteArray) (a4 : ByteArray) : Option Bool := some (insB l ⟨a0, a1, a2, a3, a4⟩)
set_option maxHeartbeats 2000000 in
set_option maxRecDepth 100000 in
theorem inside_calls (b n : Nat) (l : List ByteArray) (x : S32) (w : World) (h : MapB w b n l) (h0 : x.f0.size ≤ maxLen) (h3 : x.f3.size ≤ maxLen) :
    Calls Try.prog 72 #[.map (some b), .agg #[.string x.f0, .string x.f1, .string x.f2, .string x.f3, .string x.f4]] w fun e w' => e = .returned (.bool (insB l x)) ∧ Below w.heap.size w w' := by
  obtain ⟨f0, f1, f2, f3, f4⟩ := x
  unfold insB
  have HM := Aside0.mk h
  clear h
  go_enter Try.func72, Try.ntmps72
  go_upto_region 1 with (fail)
  refine with_world (P := fun x => Code.wp _ _ _ _ x) _ ?_
  intro w1 hw1
  have hbx := (show w1.heap[w.heap.size]? = some (.cells #[.string f0, .string f1, .string f2, .string f3, .string f4] 32 (0, 0)) from by rw [hw1]; exact blk_new _ _)
  have HB1 := Aside0.mk (show Below w.heap.size w w1 from by rw [hw1]; exact below_alloc (Below.refl _ _) _)
  clear hw1
  obtain ⟨g, hg⟩ : ∃ g, w.heap.size = g := ⟨_, rfl⟩
  have HG := Aside0.mk hg
  rw [hg] at hbx ⊢
  clear hg
  have c0 : w1.cell? ⟨g, 0, none⟩ = some (.string f0) := (blk_cell hbx 0).trans rfl
  have c3 : w1.cell? ⟨g, 3, none⟩ = some (.string f3) := (blk_cell hbx 3).trans rfl
  have l0 := (HM.out.below HB1.out).look h0
  have l3 := (HM.out.below HB1.out).look h3
  clear hbx
  cases e0 : hasB l f0
  · rw [e0] at l0
    go_wp2
    go_ret
    exact ⟨by simp, HB1.out⟩
  · cases e3 : hasB l f3
    · rw [e0] at l0; rw [e3] at l3
      go_wp2
      go_ret
      exact ⟨by simp, HB1.out⟩
    · rw [e0] at l0; rw [e3] at l3
      go_wp2
      go_ret
      exact ⟨by simp, HB1.out⟩
theorem inside_at (b : Nat) {n : Nat} (l : List ByteArray) (x : S32) (r : Bool) {w : World} (h : MapB w b n l) (hx : x.f0.size ≤ maxLen ∧ x.f3.size ≤ maxLen) (hr : interco_inside.f l x.f0 x.f1 x.f2 x.f3 x.f4 = some r) :
    Calls Try.prog 72 #[.map (some b), .agg #[.string x.f0, .string x.f1, .string x.f2, .string x.f3, .string x.f4]] w fun e w' => e = .returned (.bool r) ∧ Below w.heap.size w w' := by
  cases hr
  exact inside_calls b n l x w h hx.1 hx.2
end Go.Proofs.Ytmflggbpiadkjaa.P

/- The groups of bases by pairs of members: interco.pairs' map. -/
namespace Go.Proofs.Ytmflggbpiadkjaa.P
open Go.RowKit Go.Proofs.YtmflggbpiadkjaaW.PrintWords Go.Proofs.YtmflggbpiadkjaaW.PrintLast Go.Proofs.YtmflggbpiadkjaaW.PrintMore Go.Maps Go.ChangeShapes Go.WideShapes Go.WideMaps
set_option linter.unusedVariables false
set_option linter.unusedSimpArgs false
theorem law103 : KeyLaw Try.prog 103 := deep_law (m := 2) (by omega) (by kernel_rfl) (by kernel_rfl) (by rw [Try.underlying103])
def keyV (a b : ByteArray) : Value := .agg #[.string a, .string b]
theorem key103 {a b : ByteArray} (ha : a.size ≤ maxLen) (hb : b.size ≤ maxLen) : ∃ kl, keyOf Try.prog 103 (keyV a b) = some kl := by
  unfold keyOf
  rw [Try.underlying103]
  have h1 : Try.prog.keyType 103 = true := by kernel_rfl
  have c2 : Try.prog.cellsOf 103 = 2 := by kernel_rfl
  have c9 : Try.prog.cellsOf 9 = 1 := by kernel_rfl
  have hf : (keyV a b).formed Try.prog 103 = true := by
    unfold keyV
    simp [Value.formed, Try.underlying103, c2]
  simp only [h1, hf, Bool.and_self, if_true]
  obtain ⟨m, hm⟩ : ∃ m, Try.prog.types.size = m + 1 := ⟨Try.prog.types.size - 1, by kernel_rfl⟩
  have inner : ∀ s : ByteArray, s.size ≤ maxLen → Try.prog.keyLits (m + 1) 9 [.string s] = some [Lit.string s.data.toList] := fun s hs => by
    unfold Program.keyLits
    rw [Try.underlying9]
    simp [hs]
  have hl : ∃ L, Try.prog.keyLits (Try.prog.types.size + 1) 103 (keyV a b).cells.toList = some L := by
    rw [hm]
    unfold Program.keyLits
    rw [Try.underlying103]
    unfold keyV
    simp [Value.cells, c2, c9, inner a ha, inner b hb]
  obtain ⟨L, hl⟩ := hl
  exact ⟨_, by rw [hl]; rfl⟩
theorem keyV_inj {a b a' b' : ByteArray} (h : keyV a b = keyV a' b') : (a, b) = (a', b') := by
  unfold keyV at h
  simp only [Value.agg.injEq, Array.mk.injEq, List.cons.injEq, Value.string.injEq, and_true] at h
  rw [h.1, h.2]
abbrev K2 := ByteArray × ByteArray
/-- The map's entries: keys and values, in the order of their making. -/
def esOf (gs : List (K2 × Value)) : Array MapEntry := (gs.mapIdx fun i p => (⟨keyV p.1.1 p.1.2, p.2, i⟩ : MapEntry)).toArray
theorem esOf_size (gs : List (K2 × Value)) : (esOf gs).size = gs.length := by unfold esOf; simp
theorem esOf_get (gs : List (K2 × Value)) (j : Nat) : (esOf gs).toList[j]? = (gs[j]?).map (fun p => (⟨keyV p.1.1 p.1.2, p.2, j⟩ : MapEntry)) := by
  unfold esOf
  rw [List.toList_toArray, List.getElem?_mapIdx]
theorem esOf_mem {gs : List (K2 × Value)} {e : MapEntry} (h : e ∈ (esOf gs).toList) : ∃ j p, gs[j]? = some p ∧ e = ⟨keyV p.1.1 p.1.2, p.2, j⟩ := by
  obtain ⟨j, hj⟩ := List.mem_iff_getElem?.1 h
  rw [esOf_get] at hj
  cases hp : gs[j]? with
  | none => rw [hp] at hj; cases hj
  | some p => rw [hp] at hj; exact ⟨j, p, hp, (Option.some.inj hj).symm⟩
theorem esOf_push (gs : List (K2 × Value)) (p : K2 × Value) : esOf (gs ++ [p]) = (esOf gs).push ⟨keyV p.1.1 p.1.2, p.2, gs.length⟩ := by
  unfold esOf
  rw [List.mapIdx_append]
  simp
theorem esOf_born (gs : List (K2 × Value)) : ((esOf gs).toList.map (·.born)).Nodup := by
  have e : (esOf gs).toList.map (·.born) = List.range gs.length := by
    refine List.ext_getElem? (fun j => ?_)
    rw [List.getElem?_map, esOf_get]
    cases hp : gs[j]? with
    | none =>
      rw [List.getElem?_eq_none_iff] at hp
      rw [List.getElem?_eq_none (by simpa using hp)]
      rfl
    | some p =>
      have hj := (List.getElem?_eq_some_iff.1 hp).1
      rw [List.getElem?_range hj]
      rfl
  rw [e]
  exact List.nodup_range
theorem esOf_set (gs : List (K2 × Value)) (j : Nat) (p : K2 × Value) (hp : gs[j]? = some p) (v : Value) : (esOf gs).modify j (fun e => { e with val := v }) = esOf (gs.set j (p.1, v)) := by
  apply Array.ext'
  rw [Array.toList_modify]
  refine List.ext_getElem? (fun q => ?_)
  rw [List.getElem?_modify, esOf_get, esOf_get, List.getElem?_set]
  have hj := (List.getElem?_eq_some_iff.1 hp).1
  by_cases h : j = q
  · subst h
    rw [if_pos rfl, if_pos hj, hp]
    simp
  · rw [if_neg h]
    cases gs[q]? with
    | none => simp [h]
    | some x => simp [h]
open Go.ChangeMaps (setBlock)
theorem setBlock_same {w : World} {b : Nat} {o : Obj} (h : w.heap[b]? = some o) : setBlock w b o = w := by
  unfold setBlock
  have hlt := (Array.getElem?_eq_some_iff.1 h).1
  have e : w.heap.setIfInBounds b o = w.heap := by
    apply Array.ext'
    rw [Array.toList_setIfInBounds]
    refine List.ext_getElem? (fun q => ?_)
    rw [List.getElem?_set]
    by_cases hq : b = q
    · subst hq
      rw [if_pos rfl, if_pos (by simpa using hlt)]
      simpa using h.symm
    · rw [if_neg hq]
  rw [e]
theorem zero67 (w : World) : (zeroValue 67).run Try.prog w = .ok (.slice none 0 0) w := by kernel_rfl
theorem keys_ok {gs : List (K2 × Value)} (hs : ∀ p ∈ gs, p.1.1.size ≤ maxLen ∧ p.1.2.size ≤ maxLen) : ∀ e ∈ (esOf gs).toList, ∃ l, keyOf Try.prog 103 e.key = some l := by
  intro e he
  obtain ⟨j, p, hp, rfl⟩ := esOf_mem he
  have := hs p (List.mem_of_getElem? hp)
  exact key103 this.1 this.2
/-- The entry of a new key is made. -/
theorem entry_new {w : World} {b : Nat} {gs : List (K2 × Value)} (hb : w.heap[b]? = some (.map (esOf gs) gs.length)) (hs : ∀ p ∈ gs, p.1.1.size ≤ maxLen ∧ p.1.2.size ≤ maxLen) {x y : ByteArray} (hx : x.size ≤ maxLen) (hy : y.size ≤ maxLen) (hn : ∀ p ∈ gs, p.1 ≠ (x, y)) :
    (Instr.mapEntry 101 (.map (some b)) (keyV x y)).run Try.prog w = .ok (.tuple #[.slice none 0 0, goInt gs.length]) (setBlock w b (.map (esOf (gs ++ [((x, y), .slice none 0 0)])) (gs.length + 1))) := by
  obtain ⟨kl, hk⟩ := key103 hx hy
  rcases law103.find w hk (esOf gs).toList (keys_ok hs) with ⟨h1, h2⟩ | ⟨j, e0, h1, h2, h3⟩
  · rw [esOf_push]
    simp [Instr.mapEntry, run_underlying Try.underlying101, MapKept.run_getObj_map hb, law103.check w false hk, h1, zero67, MapKept.run_setObj_map _ hb, Result.andThen, setBlock]
  · exfalso
    obtain ⟨j', p, hp, rfl⟩ := esOf_mem (List.mem_of_getElem? h2)
    exact hn p (List.mem_of_getElem? hp) (keyV_inj h3)
/-- The entry of a key that is there. -/
theorem entry_old {w : World} {b : Nat} {gs : List (K2 × Value)} (hb : w.heap[b]? = some (.map (esOf gs) gs.length)) (hs : ∀ p ∈ gs, p.1.1.size ≤ maxLen ∧ p.1.2.size ≤ maxLen) {x y : ByteArray} {j : Nat} {v : Value} (hj : gs[j]? = some ((x, y), v)) (hd : ∀ i p, gs[i]? = some p → p.1 = (x, y) → i = j) :
    (Instr.mapEntry 101 (.map (some b)) (keyV x y)).run Try.prog w = .ok (.tuple #[v, goInt j]) w := by
  have hxy := hs _ (List.mem_of_getElem? hj)
  obtain ⟨kl, hk⟩ := key103 hxy.1 hxy.2
  rcases law103.find w hk (esOf gs).toList (keys_ok hs) with ⟨h1, h2⟩ | ⟨j', e0, h1, h2, h3⟩
  · exfalso
    exact h2 ⟨keyV x y, v, j⟩ (List.mem_of_getElem? (i := j) (by rw [esOf_get, hj]; rfl)) rfl
  · rw [esOf_get] at h2
    cases hp : gs[j']? with
    | none => rw [hp] at h2; cases h2
    | some p =>
      rw [hp] at h2
      obtain rfl := Option.some.inj h2
      obtain rfl : j' = j := hd j' p hp (keyV_inj h3)
      obtain rfl : p = ((x, y), v) := Option.some.inj (hp.symm.trans hj)
      have hge : (esOf gs)[j']? = some ⟨keyV x y, v, j'⟩ := by
        have := esOf_get gs j'
        rw [hj] at this
        simpa using this
      have hsame : (esOf gs).modify j' (fun e => { e with key := keyV x y }) = esOf gs := by
        apply Array.ext'
        rw [Array.toList_modify]
        refine List.ext_getElem? (fun q => ?_)
        rw [List.getElem?_modify]
        by_cases h : j' = q
        · subst h
          rw [esOf_get, hj]; simp
        · simp [h]
      simp [Instr.mapEntry, run_underlying Try.underlying101, MapKept.run_getObj_map hb, law103.check w false hk, h1, hge, law103.stays w hk, hsame, MapKept.run_setObj_map _ hb, Result.andThen]
      exact setBlock_same hb
/-- The entry gets its value. -/
theorem entry_store {w : World} {b n : Nat} {gs : List (K2 × Value)} (hb : w.heap[b]? = some (.map (esOf gs) n)) {j : Nat} {p : K2 × Value} (hj : gs[j]? = some p) (v : Value) :
    (Instr.entryStore 101 (.map (some b)) (goInt j) v).run Try.prog w = .ok () (setBlock w b (.map (esOf (gs.set j (p.1, v))) n)) := by
  have hidx : (esOf gs).findIdx? (fun e => ((e.born : Nat) : Int) == ((j : Nat) : Int)) = some j := by
    rw [WideElems.findIdx_arr]
    exact WideElems.findIdx_born (esOf_born gs) (e0 := ⟨keyV p.1.1 p.1.2, p.2, j⟩) (by rw [esOf_get, hj]; rfl)
  rw [← esOf_set gs j p hj v]
  simp [Instr.entryStore, MapKept.run_getObj_map hb, asInt, asIntOf, goInt, hidx, MapKept.run_setObj_map _ hb, Result.andThen, setBlock]
end Go.Proofs.Ytmflggbpiadkjaa.P

/- One more base in the groups: what the three operations on the map leave. -/
namespace Go.Proofs.Ytmflggbpiadkjaa.P
open Go.RowKit Go.Proofs.YtmflggbpiadkjaaW.PrintWords Go.Proofs.YtmflggbpiadkjaaW.PrintLast Go.Proofs.YtmflggbpiadkjaaW.PrintMore Go.Maps Go.ChangeShapes Go.WideShapes Go.WideMaps
open Go.ChangeMaps (setBlock)
set_option linter.unusedVariables false
set_option linter.unusedSimpArgs false
/-- A base more for a pair. -/
def addG (k : K2) (x : Int) : List (K2 × List Int) → List (K2 × List Int)
  | [] => [(k, [x])]
  | q :: r => if q.1 = k then (q.1, q.2 ++ [x]) :: r else q :: addG k x r
theorem addG_new (k : K2) (x : Int) : ∀ (G : List (K2 × List Int)), (∀ q ∈ G, q.1 ≠ k) → addG k x G = G ++ [(k, [x])]
  | [], _ => rfl
  | q :: r, h => by
    unfold addG
    rw [if_neg (h q (by simp)), addG_new k x r (fun p hp => h p (by simp [hp]))]
    rfl
theorem addG_old (k : K2) (x : Int) : ∀ (G : List (K2 × List Int)) (j : Nat) (q : K2 × List Int), G[j]? = some q → q.1 = k → (∀ i p, i < j → G[i]? = some p → p.1 ≠ k) → addG k x G = G.set j (q.1, q.2 ++ [x])
  | [], j, q, h, _, _ => by simp at h
  | p :: r, 0, q, h, hk, _ => by
    obtain rfl : p = q := by simpa using h
    unfold addG
    rw [if_pos hk]
    rfl
  | p :: r, j + 1, q, h, hk, hn => by
    unfold addG
    rw [if_neg (hn 0 p (by omega) rfl), addG_old k x r j q (by simpa using h) hk (fun i p' hi hp => hn (i + 1) p' (by omega) (by simpa using hp))]
    rfl
structure Grps (W : World) (b : Nat) (gs : List (K2 × Value)) (G : List (K2 × List Int)) : Prop where
  map : W.heap[b]? = some (.map (esOf gs) gs.length)
  len : gs.length = G.length
  key : ∀ (j : Nat) (p : K2 × Value) (q : K2 × List Int), gs[j]? = some p → G[j]? = some q → p.1 = q.1
  row : ∀ (j : Nat) (p : K2 × Value) (q : K2 × List Int), gs[j]? = some p → G[j]? = some q → W.ownsRow (b + 1) 3 1 p.2 q.2.length (q.2.map (Value.int .i64))
  apart : ∀ (i j : Nat) (p q : K2 × Value), i ≠ j → gs[i]? = some p → gs[j]? = some q → ∀ g, p.2.ownBlock = some g → q.2.ownBlock ≠ some g
  diff : ∀ (i j : Nat) (p q : K2 × Value), gs[i]? = some p → gs[j]? = some q → p.1 = q.1 → i = j
  siz : ∀ p ∈ gs, p.1.1.size ≤ maxLen ∧ p.1.2.size ≤ maxLen
theorem Grps.lt {W : World} {b : Nat} {gs : List (K2 × Value)} {G : List (K2 × List Int)} (h : Grps W b gs G) : b < W.heap.size := (Array.getElem?_eq_some_iff.1 h.map).1
theorem row_ne {W : World} {b e size : Nat} {v : Value} {n : Nat} {xs : List Value} (h : W.ownsRow (b + 1) e size v n xs) : v.ownBlock = none ∨ v.ownBlock ≠ some b := by
  cases hv : v.ownBlock with
  | none => exact .inl rfl
  | some g =>
    right
    have := h.lt g hv
    intro e
    have := Option.some.inj e
    omega
theorem grown_setBlock (w : World) (b : Nat) (o : Obj) : w.grownBy (setBlock w b o) (some b) :=
  ⟨rfl, rfl, rfl, by unfold setBlock; simp, fun i hi hne => by
    unfold setBlock
    have : b ≠ i := fun e => hne (by rw [e])
    simp [Array.getElem?_setIfInBounds, this]⟩
theorem grown_alloc (w : World) (o : Obj) (row : Option Nat) : w.grownBy (w.alloc o) row :=
  ⟨rfl, rfl, rfl, (below_alloc (Below.refl w.heap.size w) o).size, fun i hi _ => Below.heap_alloc w o i hi⟩
theorem heap_setBlock {w : World} {b : Nat} (h : b < w.heap.size) (o : Obj) : (setBlock w b o).heap[b]? = some o := by
  show (w.heap.setIfInBounds b o)[b]? = some o
  rw [Array.getElem?_setIfInBounds, if_pos rfl, if_pos h]
theorem size_setBlock (w : World) (b : Nat) (o : Obj) : (setBlock w b o).heap.size = w.heap.size := by unfold setBlock; simp
/-- All blocks are as they were, or new. -/
theorem Grps.grown {W W' : World} {b : Nat} {gs : List (K2 × Value)} {G : List (K2 × List Int)} (h : Grps W b gs G) (hg : W.grownBy W' none) : Grps W' b gs G :=
  ⟨(hg.block b h.lt (by simp)).trans h.map, h.len, h.key, fun j p q h1 h2 => (h.row j p q h1 h2).kept hg (by
    cases hv : p.2.ownBlock with
    | none => exact .inl rfl
    | some g => exact .inr (by simp)), h.apart, h.diff, h.siz⟩
theorem Grps.below {W W' : World} {b : Nat} {gs : List (K2 × Value)} {G : List (K2 × List Int)} (h : Grps W b gs G) (hb : Below W.heap.size W W') : Grps W' b gs G :=
  h.grown ⟨hb.os, hb.tape, hb.output, hb.size, fun i hi _ => hb.block i hi⟩
/-- What the append of a value to a row leaves for the map: the store. -/
theorem grp_end {W1 W2 : World} {b : Nat} {gs : List (K2 × Value)} {G : List (K2 × List Int)} {j : Nat} {x y : ByteArray} {n : Int} {v v' : Value} {xs : List Int} (h : Grps W1 b gs G) (hj : gs[j]? = some ((x, y), v)) (hq : G[j]? = some ((x, y), xs))
    (hown : W2.ownsRow (b + 1) 3 1 v' (xs.length + 1) (xs.map (Value.int .i64) ++ [.int .i64 n])) (hg : W1.grownBy W2 v.ownBlock) (hv : v'.ownBlock = v.ownBlock ∨ v'.ownBlock = some W1.heap.size) :
    ∃ W3 gs', (Instr.entryStore 101 (.map (some b)) (goInt j) v').run Try.prog W2 = .ok () W3 ∧ Grps W3 b gs' (G.set j ((x, y), xs ++ [n])) ∧ Below b W1 W3 ∧ gs'.length = gs.length := by
  have hrow := h.row j _ _ hj hq
  have hb2 : W2.heap[b]? = some (.map (esOf gs) gs.length) := (hg.block b h.lt (by
    rcases row_ne hrow with e | e
    · rw [show v.ownBlock = none from e]; simp
    · exact fun e2 => e e2.symm)).trans h.map
  have hlt2 : b < W2.heap.size := (Array.getElem?_eq_some_iff.1 hb2).1
  have hjl := (List.getElem?_eq_some_iff.1 hj).1
  refine ⟨_, gs.set j ((x, y), v'), entry_store hb2 hj v', ?_, ?_, by simp⟩
  · have hset : ∀ (i : Nat) (p : K2 × Value), (gs.set j ((x, y), v'))[i]? = some p → (i = j ∧ p = ((x, y), v')) ∨ (i ≠ j ∧ gs[i]? = some p) := by
      intro i p hp
      rw [List.getElem?_set] at hp
      by_cases e : j = i
      · subst e
        rw [if_pos rfl, if_pos hjl] at hp
        exact .inl ⟨rfl, (Option.some.inj hp).symm⟩
      · rw [if_neg e] at hp
        exact .inr ⟨fun e2 => e e2.symm, hp⟩
    have hsetG : ∀ (i : Nat) (q : K2 × List Int), (G.set j ((x, y), xs ++ [n]))[i]? = some q → (i = j ∧ q = ((x, y), xs ++ [n])) ∨ (i ≠ j ∧ G[i]? = some q) := by
      intro i p hp
      rw [List.getElem?_set] at hp
      by_cases e : j = i
      · subst e
        rw [if_pos rfl, if_pos (by have := h.len; omega)] at hp
        exact .inl ⟨rfl, (Option.some.inj hp).symm⟩
      · rw [if_neg e] at hp
        exact .inr ⟨fun e2 => e e2.symm, hp⟩
    have away : ∀ (i : Nat) (p : K2 × Value), i ≠ j → gs[i]? = some p → p.2.ownBlock = none ∨ p.2.ownBlock ≠ v.ownBlock := by
      intro i p hi hp
      cases hpo : p.2.ownBlock with
      | none => exact .inl rfl
      | some g => exact .inr (fun e => h.apart i j p _ hi hp hj g hpo e.symm)
    refine ⟨?_, by simpa using h.len, ?_, ?_, ?_, ?_, ?_⟩
    · rw [List.length_set]; exact heap_setBlock hlt2 _
    · intro i p q hp hq'
      rcases hset i p hp with ⟨rfl, rfl⟩ | ⟨hi, hp⟩
      · rcases hsetG i q hq' with ⟨_, rfl⟩ | ⟨hi, _⟩
        · rfl
        · exact absurd rfl hi
      · rcases hsetG i q hq' with ⟨e, _⟩ | ⟨_, hq'⟩
        · exact absurd e hi
        · exact h.key i p q hp hq'
    · intro i p q hp hq'
      rcases hset i p hp with ⟨rfl, rfl⟩ | ⟨hi, hp⟩
      · rcases hsetG i q hq' with ⟨_, rfl⟩ | ⟨hi, _⟩
        · have := hown.kept (grown_setBlock W2 b (.map (esOf (gs.set i ((x, y), v'))) gs.length)) (row_ne hown)
          show World.ownsRow _ _ _ _ v' (xs ++ [n]).length ((xs ++ [n]).map (Value.int .i64))
          rw [List.length_append, List.map_append]
          exact this
        · exact absurd rfl hi
      · rcases hsetG i q hq' with ⟨e, _⟩ | ⟨_, hq'⟩
        · exact absurd e hi
        · have h1 := (h.row i p q hp hq').kept hg (away i p hi hp)
          exact h1.kept (grown_setBlock W2 b _) (row_ne h1)
    · intro i i' p q hne hp hq' g hpg hqg
      have hnew : ∀ (i : Nat) (p : K2 × Value), gs[i]? = some p → p.2.ownBlock ≠ some W1.heap.size := by
        intro i p hp e
        obtain ⟨q', hq'⟩ : ∃ q', G[i]? = some q' := ⟨G[i]'(by have := (List.getElem?_eq_some_iff.1 hp).1; have := h.len; omega), List.getElem?_eq_getElem _⟩
        have := (h.row i p q' hp hq').lt _ e
        omega
      rcases hset i p hp with ⟨e1, e2⟩ | ⟨hi, hp2⟩
      · rcases hset i' q hq' with ⟨e3, e4⟩ | ⟨hi', hq2⟩
        · exact hne (e1.trans e3.symm)
        · subst e2
          rcases hv with e | e
          · exact h.apart j i' _ q (fun e5 => hi' e5.symm) hj hq2 g (e.symm.trans hpg) hqg
          · exact hnew i' q hq2 (hqg.trans (hpg.symm.trans e))
      · rcases hset i' q hq' with ⟨e3, e4⟩ | ⟨hi', hq2⟩
        · subst e4
          rcases hv with e | e
          · exact h.apart i j p _ hi hp2 hj g hpg (e.symm.trans hqg)
          · exact hnew i p hp2 (hpg.trans (hqg.symm.trans e))
        · exact h.apart i i' p q hne hp2 hq2 g hpg hqg
    · intro i i' p q hp hq' e
      have key : ∀ (i : Nat) (p : K2 × Value), (gs.set j ((x, y), v'))[i]? = some p → ∃ p', gs[i]? = some p' ∧ p'.1 = p.1 := by
        intro i p hp
        rcases hset i p hp with ⟨rfl, rfl⟩ | ⟨hi, hp⟩
        · exact ⟨_, hj, rfl⟩
        · exact ⟨p, hp, rfl⟩
      obtain ⟨p', h1, e1⟩ := key i p hp
      obtain ⟨q', h2, e2⟩ := key i' q hq'
      exact h.diff i i' p' q' h1 h2 (e1.trans (e.trans e2.symm))
    · intro p hp
      obtain ⟨i, hi⟩ := List.mem_iff_getElem?.1 hp
      rcases hset i p hi with ⟨rfl, rfl⟩ | ⟨_, hi⟩
      · exact h.siz ((x, y), v) (List.mem_of_getElem? hj)
      · exact h.siz p (List.mem_of_getElem? hi)
  · refine ⟨hg.os, hg.tape, hg.output, by rw [size_setBlock]; exact hg.size, fun k hk => ?_⟩
    have h1 := (grown_setBlock W2 b (.map (esOf (gs.set j ((x, y), v'))) gs.length)).block k (Nat.lt_of_lt_of_le (by have := h.lt; omega) hg.size) (fun e => by have := Option.some.inj e; omega)
    refine h1.trans (hg.block k (by have := h.lt; omega) (fun e => ?_))
    have := hrow.lt k e.symm
    omega
/-- The three operations: the entry, the append, the store. -/
theorem grp_step {W : World} {b : Nat} {gs : List (K2 × Value)} {G : List (K2 × List Int)} (h : Grps W b gs G) {x y : ByteArray} (hx : x.size ≤ maxLen) (hy : y.size ≤ maxLen) (n : Int) (hlen : ∀ q ∈ G, q.2.length ≤ 1000000) :
    ∃ (v : Value) (st : Nat) (W1 : World) (xs : List Int), (Instr.mapEntry 101 (.map (some b)) (keyV x y)).run Try.prog W = .ok (.tuple #[v, goInt st]) W1 ∧ W1.ownsRow (b + 1) 3 1 v xs.length (xs.map (Value.int .i64)) ∧ xs.length ≤ 1000000 ∧ b + 1 ≤ W1.heap.size ∧
      (∀ (p : Addr) (u : Value), p.block ≠ b → W.cell? p = some u → W1.cell? p = some u) ∧ Below b W W1 ∧
      ∀ (v' : Value) (W2 : World), W2.ownsRow (b + 1) 3 1 v' (xs.length + 1) (xs.map (Value.int .i64) ++ [.int .i64 n]) → W1.grownBy W2 v.ownBlock → (v'.ownBlock = v.ownBlock ∨ v'.ownBlock = some W1.heap.size) →
        ∃ W3 gs', (Instr.entryStore 101 (.map (some b)) (goInt st) v').run Try.prog W2 = .ok () W3 ∧ Grps W3 b gs' (addG (x, y) n G) ∧ Below b W W3 := by
  by_cases hk : ∃ (j : Nat) (v : Value), gs[j]? = some ((x, y), v)
  · obtain ⟨j, v, hj⟩ := hk
    have hjl := (List.getElem?_eq_some_iff.1 hj).1
    obtain ⟨q, hq⟩ : ∃ q, G[j]? = some q := ⟨G[j]'(by have := h.len; omega), List.getElem?_eq_getElem _⟩
    obtain ⟨qk, xs⟩ := q
    have hqk : (x, y) = qk := h.key j _ _ hj hq
    subst hqk
    have hl := hlen _ (List.mem_of_getElem? hq)
    refine ⟨v, j, W, xs, entry_old h.map h.siz hj (fun i p hp e => h.diff i j p _ hp hj e), h.row j _ _ hj hq, hl, h.lt, fun _ _ _ hc => hc, Below.refl _ _, fun v' W2 h1 h2 h3 => ?_⟩
    obtain ⟨W3, gs', hr, hG, hB, _⟩ := grp_end h hj hq h1 h2 h3
    refine ⟨W3, gs', hr, ?_, hB⟩
    rw [addG_old (x, y) n G j _ hq rfl (fun i p hi hp e => by
      obtain ⟨p', hp'⟩ : ∃ p', gs[i]? = some p' := ⟨gs[i]'(by omega), List.getElem?_eq_getElem _⟩
      have := h.diff i j p' _ hp' hj ((h.key i p' p hp' hp).trans e)
      omega)]
    exact hG
  · have hn : ∀ p ∈ gs, p.1 ≠ (x, y) := by
      intro p hp e
      obtain ⟨j, hj⟩ := List.mem_iff_getElem?.1 hp
      obtain ⟨pk, pv⟩ := p
      subst e
      exact hk ⟨j, pv, hj⟩
    have hnG : ∀ q ∈ G, q.1 ≠ (x, y) := by
      intro q hq e
      obtain ⟨j, hj⟩ := List.mem_iff_getElem?.1 hq
      obtain ⟨p, hp⟩ : ∃ p, gs[j]? = some p := ⟨gs[j]'(by have := (List.getElem?_eq_some_iff.1 hj).1; have := h.len; omega), List.getElem?_eq_getElem _⟩
      exact hn p (List.mem_of_getElem? hp) ((h.key j p q hp hj).trans e)
    have hg1 := grown_setBlock W b (.map (esOf (gs ++ [((x, y), .slice none 0 0)])) (gs.length + 1))
    have h1 : Grps (setBlock W b (.map (esOf (gs ++ [((x, y), .slice none 0 0)])) (gs.length + 1))) b (gs ++ [((x, y), .slice none 0 0)]) (G ++ [((x, y), [])]) := by
      have app : ∀ (i : Nat) (p : K2 × Value), (gs ++ [((x, y), Value.slice none 0 0)])[i]? = some p → (gs[i]? = some p) ∨ (i = gs.length ∧ p = ((x, y), .slice none 0 0)) := by
        intro i p hp
        rcases Nat.lt_or_ge i gs.length with hl | hl
        · rw [List.getElem?_append_left hl] at hp; exact .inl hp
        · rw [List.getElem?_append_right hl] at hp
          have hi : i - gs.length < 1 := (List.getElem?_eq_some_iff.1 hp).1
          have : i = gs.length := by omega
          subst this
          simp at hp
          exact .inr ⟨rfl, hp.symm⟩
      have appG : ∀ (i : Nat) (q : K2 × List Int), (G ++ [((x, y), ([] : List Int))])[i]? = some q → (i < G.length ∧ G[i]? = some q) ∨ (i = G.length ∧ q = ((x, y), [])) := by
        intro i p hp
        rcases Nat.lt_or_ge i G.length with hl | hl
        · rw [List.getElem?_append_left hl] at hp; exact .inl ⟨hl, hp⟩
        · rw [List.getElem?_append_right hl] at hp
          have hi : i - G.length < 1 := (List.getElem?_eq_some_iff.1 hp).1
          have : i = G.length := by omega
          subst this
          simp at hp
          exact .inr ⟨rfl, hp.symm⟩
      have lg := h.len
      refine ⟨by rw [List.length_append]; exact heap_setBlock h.lt _, by simp [lg], ?_, ?_, ?_, ?_, ?_⟩
      · intro i p q hp hq
        rcases app i p hp with hp | ⟨rfl, rfl⟩
        · rcases appG i q hq with ⟨_, hq⟩ | ⟨e, _⟩
          · exact h.key i p q hp hq
          · have := (List.getElem?_eq_some_iff.1 hp).1; omega
        · rcases appG _ q hq with ⟨e, _⟩ | ⟨_, rfl⟩
          · omega
          · rfl
      · intro i p q hp hq
        rcases app i p hp with hp | ⟨rfl, rfl⟩
        · rcases appG i q hq with ⟨_, hq⟩ | ⟨e, _⟩
          · have := h.row i p q hp hq
            exact this.kept hg1 (row_ne this)
          · have := (List.getElem?_eq_some_iff.1 hp).1; omega
        · rcases appG _ q hq with ⟨e, _⟩ | ⟨_, rfl⟩
          · omega
          · exact World.ownsRow_nil _ _ _ _
      · intro i i' p q hne hp hq g hpg hqg
        rcases app i p hp with hp | ⟨rfl, rfl⟩
        · rcases app i' q hq with hq | ⟨rfl, rfl⟩
          · exact h.apart i i' p q hne hp hq g hpg hqg
          · simp [Value.ownBlock] at hqg
        · simp [Value.ownBlock] at hpg
      · intro i i' p q hp hq e
        rcases app i p hp with hp | ⟨rfl, rfl⟩
        · rcases app i' q hq with hq | ⟨rfl, rfl⟩
          · exact h.diff i i' p q hp hq e
          · exact absurd e (hn p (List.mem_of_getElem? hp))
        · rcases app i' q hq with hq | ⟨rfl, rfl⟩
          · exact absurd e.symm (hn q (List.mem_of_getElem? hq))
          · rfl
      · intro p hp
        rcases List.mem_append.1 hp with hp | hp
        · exact h.siz p hp
        · simp only [List.mem_singleton] at hp
          subst hp
          exact ⟨hx, hy⟩
    have hj : (gs ++ [((x, y), Value.slice none 0 0)])[gs.length]? = some ((x, y), .slice none 0 0) := by simp
    have hq : (G ++ [((x, y), ([] : List Int))])[gs.length]? = some ((x, y), []) := by rw [h.len]; simp
    have hB1 : Below b W (setBlock W b (.map (esOf (gs ++ [((x, y), .slice none 0 0)])) (gs.length + 1))) :=
      ⟨hg1.os, hg1.tape, hg1.output, hg1.size, fun k hk => hg1.block k (by have := h.lt; omega) (fun e => by have := Option.some.inj e; omega)⟩
    refine ⟨.slice none 0 0, gs.length, _, [], entry_new h.map h.siz hx hy hn, World.ownsRow_nil _ _ _ _, by simp, by rw [size_setBlock]; exact h.lt, fun p u hp hc => ?_, hB1, fun v' W2 h2 h3 h4 => ?_⟩
    · have hlt := World.block_lt_of_cell? W p hc
      have e := hg1.block p.block hlt (fun e => hp (Option.some.inj e))
      rw [← hc]
      simp only [World.cell?, e]
    · obtain ⟨W3, gs', hr, hG, hB, _⟩ := grp_end (x := x) (y := y) (n := n) (xs := []) h1 hj hq h2 h3 h4
      refine ⟨W3, gs', hr, ?_, hB1.trans hB⟩
      rw [addG_new (x, y) n G hnG]
      have e : (G ++ [((x, y), ([] : List Int))]).set gs.length ((x, y), [] ++ [n]) = G ++ [((x, y), [n])] := by
        rw [h.len, List.set_append_right _ _ (Nat.le_refl _), Nat.sub_self]
        rfl
      rw [e] at hG
      exact hG
end Go.Proofs.Ytmflggbpiadkjaa.P
