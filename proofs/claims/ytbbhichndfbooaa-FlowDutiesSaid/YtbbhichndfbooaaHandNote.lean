/- The contracts of note and Draft: what is appended to a workflow. -/
import Derived.Test.YtbbhichndfbooaaHandNeed
namespace Go.Proofs.Ytbbhichndfbooaa.P
open Go.RowKit Go.Proofs.YtbbhichndfbooaaW.PrintWords Go.Proofs.YtbbhichndfbooaaW.PrintLast Go.Proofs.YtbbhichndfbooaaW.PrintMore Go.Maps Go.ChangeShapes Go.WideShapes Go.WideMaps
set_option linter.unusedVariables false
set_option linter.unusedSimpArgs false
theorem info55 : (Try.prog.info? 55).map (fun i => (i.zero, i.size, i.bytes)) = some (some (.agg #[.int .i64 0, .int .i64 0, .string ⟨#[]⟩]), 3, 32) := by kernel_rfl
theorem info72 : (Try.prog.info? 72).map (fun i => (i.zero, i.size, i.bytes)) = some (some (.pointer none), 1, 8) := by kernel_rfl
theorem info9 : (Try.prog.info? 9).map (fun i => (i.zero, i.size, i.bytes)) = some (some (.string ⟨#[]⟩), 1, 16) := by kernel_rfl
set_option maxHeartbeats 4000000 in
set_option maxRecDepth 100000 in
theorem note_calls (p : Nat) (S : FlowS) (L : Parts) (F : Nat → Prop) (kind id : Int) (user : ByteArray) (w : World) (h : FlwP w F p S L) (hn : S.acts.length ≤ 1000000) :
    Calls Try.prog 47 #[.pointer (some ⟨p, 0, none⟩), .int .i64 kind, .int .i64 id, .string user] w fun e w' => e = .returned (.tuple #[]) ∧ After F w w' p { S with acts := S.acts ++ [⟨kind, id, user⟩] } := by
  obtain ⟨vs, m, vd, va, ds, vp⟩ := L
  obtain ⟨A, c, e⟩ := Kd.R_slice h.acts
  have e : va = .slice A S.acts.length c := e
  subst e
  have BK : w.heap[p]? = some (.cells #[vs, .map (some m), vd, .slice A S.acts.length c] 67 (0, 0)) := h.blk
  have c3 := (blk_cell BK 3).trans rfl
  have f3 := blk_frozen BK 3
  have HF := Aside0.mk h
  have HBK := Aside0.mk BK
  clear BK h
  go_enter Try.func47, Try.ntmps47
  go_wp2_with (first | ((with_reducible refine gate_builtin (b := .append) (xs := #[.tmp 12, .tmp 17]) rfl ?_); at_builtin; refine Kd.R_append k55 (w0 := w) 0 rfl (.tmp 12) (.tmp 17) 41 55 (.agg #[.int .i64 0, .int .i64 0, .string ⟨#[]⟩]) 32 rfl Try.underlying41 info55 rfl (by decide) (by omega) (.slice A S.acts.length c) S.acts ⟨kind, id, user⟩ [.int .i64 kind, .int .i64 id, .string user] (fun k => F k ∨ w.heap.size ≤ k) (fun _ => False) rfl rfl ?aP (fun _ hk => hk.elim) ?aF ?aO ?aB ?aS ?aL ?_; (case aP => exact k55_mkM _ _ _ _); (case aF => exact fun k hk => .inr hk); (case aO => exact Kd.R_mono HF.out.acts (fun k hk => .inl hk)); (case aB => exact Below.refl _ _); (case aS => exact Nat.zero_le _); (case aL => omega); intro v1 w1 ho hb hg hat; obtain ⟨A1, c1, rfl⟩ := Kd.R_slice ho; have HO := Aside0.mk ho; have HG := Aside0.mk hg; have HB1 := Aside0.mk (blk_grown HBK.out hg (fun e => typed_ne (HF.out.ta e.symm) HF.out.tp (by decide) rfl)); have f3' := blk_frozen HB1.out 3; have c3' := (blk_cell HB1.out 3).trans rfl; clear f3 c3 ho hb hg hat))
  go_end0
  have h := HF.out
  have hg := HG.out
  have hsz : w.heap.size ≤ w1.heap.size := hg.size
  have hpl := h.lt _ h.own
  have hst : ∀ u, (w1.setCell ⟨p, 3, none⟩ u).heap.size = w1.heap.size := fun u => by simp [World.setCell]
  refine ⟨rfl, After.intro (fun k => (F k ∨ w.heap.size ≤ k) ∧ k < w1.heap.size) _ (h.turned_acts (va := .slice A1 (S.acts.length + 1) c1) (al := S.acts ++ [⟨kind, id, user⟩]) (fun k hk => ⟨.inl hk, Nat.lt_of_lt_of_le (h.lt k hk) hsz⟩) (fun k hk hp ha => ?_) (blk_put HB1.out 3 _ rfl) ?_ (fun k hk => by rw [hst]; exact hk.2)) ⟨?_, fun k hk => hk.1⟩⟩
  · rw [Below.heap_setCell _ _ _ _ hp]
    exact hg.block k (h.lt k hk) (fun e => ha e.symm)
  · have h0 := HO.out
    rw [show (S.acts ++ [(⟨kind, id, user⟩ : S55)]).length = S.acts.length + 1 by simp] at h0
    have h1 := Kd.R_bound h0
    exact Kd.R_mono (Kd.R_far (Kd.R_types h1 HB1.out (by decide)) (fun k hk => hk.2) _) (fun k hk => ⟨hk.1.1, hk.1.2.2.1⟩)
  · exact (But.of_grown hg (fun k hk => h.acts.1 k hk)).setCell h.own _
end Go.Proofs.Ytbbhichndfbooaa.P
