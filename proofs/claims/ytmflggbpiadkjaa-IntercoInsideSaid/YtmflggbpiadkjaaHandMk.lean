/- A make of cells with a capacity, as an event of the walk. -/
import Derived.Test.YtmflggbpiadkjaaHandInq
import Derived.Laws.MakeOwn
namespace Go.Proofs.Ytmflggbpiadkjaa.P
open Go.RowKit Go.Sort Go.Proofs.YtmflggbpiadkjaaW.PrintWords Go.Proofs.YtmflggbpiadkjaaW.PrintLast Go.Proofs.YtmflggbpiadkjaaW.PrintMore
set_option linter.unusedVariables false
set_option linter.unusedSimpArgs false
theorem prK_len (l : List S34) : (prK l).1.length ≤ l.length := by
  unfold prK
  split
  · rw [List.length_map]
    have := keysK_le (l.map ck)
    rw [List.length_map] at this
    exact this
  · exact Nat.zero_le _
theorem pairs_len {l : List S34} {r : List S89} {e : Int} (h : interco_pairs.f l = some (r, e)) : l.length ≤ 1000000 ∧ r.length ≤ 1000000 := by
  unfold interco_pairs.f at h
  by_cases hm : FitP l
  · rw [if_pos hm] at h
    have h1 := prK_len l
    have h2 : prK l = (r, e) := Option.some.inj h
    rw [h2] at h1
    have := hm.1
    exact ⟨hm.1, Nat.le_trans h1 hm.1⟩
  · rw [if_neg hm] at h; cases h
theorem mk_event {o : Oper} {ops : Array Oper} {rest : List Oper} {a : Act} {Q : Exit → Act → World → Prop} {W : World} (hgd : o.guard = none) {N : Tmp} (_hd : o.dst = some N) (s : Operand) (hop : o.op = .makeSlice 22 (.const (.int .i64 0)) s) (c : Nat) {m : Int} (hs : a.eval s = .int .i64 m) (hm : m = (c : Int)) (hc : c ≤ 2000000) (base : Nat) (hb : base ≤ W.heap.size)
    (h : ∀ g w1, g = W.heap.size → w1.ownsRow base 34 7 (.slice (some ⟨g, 0, none⟩) 0 c) 0 [] → Below W.heap.size W w1 → wpList Try.prog ops Q rest (a.put o.dst (.slice (some ⟨g, 0, none⟩) 0 c)) w1) : wpList Try.prog ops Q (o :: rest) a W := by
  obtain ⟨i0, hi0, hz0, hz1, hz2⟩ := info_parts info34
  subst hm
  obtain ⟨w1, hr, ho, hg⟩ := run_make_own (P := Try.prog) W base 22 34 i0 _ 7 Try.underlying22 hi0 hz0 hz1 .i64 .i64 c (by rw [hz2]; omega) (by unfold maxLen; omega) hb
  refine Kd.event_run hgd ?_ (h W.heap.size w1 rfl ho ⟨hg.os, hg.tape, hg.output, hg.size, fun k hk => hg.block k hk (by simp)⟩)
  unfold execOp
  simp only [hop]
  rw [show a.eval (.const (.int .i64 0)) = .int .i64 0 from rfl, hs]
  simp [hr, Result.andThen]
theorem R_empty {W : World} {base g c : Nat} {ok : Nat → Prop} (h : W.ownsRow base 34 7 (.slice (some ⟨g, 0, none⟩) 0 c) 0 []) (hok : ok g) : Kd.R k34 34 W base ok (.slice (some ⟨g, 0, none⟩) 0 c) [] := by
  refine ⟨fun k hk => ?_, [], h, rfl, fun j p hj => by simp at hj⟩
  simp [Value.ownBlock] at hk
  subst hk
  exact hok
end Go.Proofs.Ytmflggbpiadkjaa.P
