/- The contracts of Approvals and Acts: copies. -/
import Derived.Test.YtbbhichndfbooaaHandRed
namespace Go.Proofs.Ytbbhichndfbooaa.P
open Go.RowKit Go.Proofs.YtbbhichndfbooaaW.PrintWords Go.Proofs.YtbbhichndfbooaaW.PrintLast Go.Proofs.YtbbhichndfbooaaW.PrintMore Go.Maps Go.ChangeShapes Go.WideShapes Go.WideMaps
set_option linter.unusedVariables false
set_option linter.unusedSimpArgs false
/-- What a call returns: a slice of its own. -/
def Fresh {α : Type} (d : Kd α) (e : Nat) (w w' : World) (x : Ending) (xs : List α) : Prop := ∃ v, x = .returned v ∧ d.R e w' w.heap.size (fun k => w.heap.size ≤ k) v xs ∧ Below w.heap.size w w'
theorem Fresh.nil {α : Type} (d : Kd α) (e : Nat) (w : World) : Fresh d e w w (.returned (.slice none 0 0)) [] := ⟨_, rfl, Kd.R_nil _ _ _ _ _, Below.refl _ _⟩
set_option maxHeartbeats 4000000 in
set_option maxRecDepth 100000 in
theorem approvals_calls (p : Nat) (S : FlowS) (F : Nat → Prop) (id : Int) (hid : (Lit.int .i64 id).wf = true) (w : World) (h : Flw w F p S) (hn : (apOf S id).length ≤ 1000000) :
    Calls Try.prog 23 #[.pointer (some ⟨p, 0, none⟩), .int .i64 id] w fun e w' => Fresh Kd.string 9 w w' e (apOf S id) := by
  obtain ⟨L, h⟩ := h
  unfold apOf at hn ⊢
  rcases doc_cases h id with ⟨h1, h2⟩ | ⟨j, b, D, v, h1, h2, -, -, -, -, -, hD⟩
  · rw [h2]
    clear hn
    go_enter Try.func23, Try.ntmps23
    go_wp2_with (first | (go_at_call 36; refine (doc_none hid h h1).mono ?_; rintro e w' ⟨rfl, he_⟩; obtain rfl := he_.symm))
    go_ret
    exact Fresh.nil _ _ _
  · rw [h2] at hn ⊢
    have hn : D.ap.length ≤ 1000000 := hn
    obtain ⟨Av, cv, hv⟩ := Kd.R_slice hD.row
    subst hv
    have c3 := (blk_cell hD.blk 3).trans rfl
    have HC := Aside0.mk (Kd.R_reads' hD.row).2.2
    clear h2 hD
    go_enter Try.func23, Try.ntmps23
    go_wp2_with (first | (go_at_call 36; refine (doc_some hid h h1).mono ?_; rintro e w' ⟨rfl, he_⟩; obtain rfl := he_.symm) | ((with_reducible refine gate_builtin (b := .append) (xs := #[.tmp 11, .tmp 15]) rfl ?_); at_builtin; refine Kd.R_append_rows Kd.string (w0 := w) (Rr := Kd.string.K w) w.heap.size rfl (.tmp 11) (.tmp 15) 23 9 (.string ⟨#[]⟩) 16 rfl Try.underlying23 info9 rfl (by decide) (by omega) (.slice none 0 0) [] D.ap Av D.ap.length cv (fun k => w.heap.size ≤ k) (fun _ => False) rfl rfl ?aO ?aR ?aK (fun _ hk => hk.elim) ?aF ?aB ?aS ?aL ?_; (case aO => exact Kd.R_nil _ _ _ _ _); (case aR => exact HC.out); (case aK => exact fun x cs hx => hx); (case aF => exact fun k hk => hk); (case aB => exact Below.refl _ _); (case aS => exact Nat.le_refl _); (case aL => simp; omega); intro v1 w1 ho hb hg hat; obtain ⟨A1, c1, rfl⟩ := Kd.R_slice ho; have HO := Aside0.mk ho; have HB := Aside0.mk hb; clear ho hb hg hat))
    go_ret
    exact ⟨_, rfl, HO.out, HB.out⟩
theorem approvals_nil (id : Int) (w : World) : Calls Try.prog 23 #[.pointer none, .int .i64 id] w fun e w' => e = .returned (.slice none 0 0) ∧ w' = w := by
  go_enter Try.func23, Try.ntmps23
  go_wp2_with (first | (go_at_call 36; refine (doc_nil id _).mono ?_; rintro e w' ⟨rfl, rfl⟩))
  go_ret
  exact ⟨rfl, rfl⟩
set_option maxHeartbeats 4000000 in
set_option maxRecDepth 100000 in
theorem acts_calls (p : Nat) (S : FlowS) (F : Nat → Prop) (w : World) (h : Flw w F p S) (hn : S.acts.length ≤ 1000000) :
    Calls Try.prog 16 #[.pointer (some ⟨p, 0, none⟩)] w fun e w' => Fresh k55 55 w w' e S.acts := by
  obtain ⟨L, h⟩ := h
  obtain ⟨Av, cv, hv⟩ := Kd.R_slice h.acts
  have BK := h.blk
  have hR := h.acts
  rw [hv] at BK hR
  have c3 := (blk_cell BK 3).trans rfl
  have HC := Aside0.mk (Kd.R_reads' hR).2.2
  clear h hR BK hv
  go_enter Try.func16, Try.ntmps16
  go_wp2_with (first | ((with_reducible refine gate_builtin (b := .append) (xs := #[.tmp 5, .tmp 9]) rfl ?_); at_builtin; refine Kd.R_append_rows k55 (w0 := w) (Rr := k55.K w) w.heap.size rfl (.tmp 5) (.tmp 9) 41 55 (.agg #[.int .i64 0, .int .i64 0, .string ⟨#[]⟩]) 32 rfl Try.underlying41 info55 rfl (by decide) (by omega) (.slice none 0 0) [] S.acts Av S.acts.length cv (fun k => w.heap.size ≤ k) (fun _ => False) rfl rfl ?aO ?aR ?aK (fun _ hk => hk.elim) ?aF ?aB ?aS ?aL ?_; (case aO => exact Kd.R_nil _ _ _ _ _); (case aR => exact HC.out); (case aK => exact fun x cs hx => by obtain rfl := k55_open hx; exact k55_mkM _ _ _ _); (case aF => exact fun k hk => hk); (case aB => exact Below.refl _ _); (case aS => exact Nat.le_refl _); (case aL => simp; omega); intro v1 w1 ho hb hg hat; obtain ⟨A1, c1, rfl⟩ := Kd.R_slice ho; have HO := Aside0.mk ho; have HB := Aside0.mk hb; clear ho hb hg hat))
  go_ret
  exact ⟨_, rfl, HO.out, HB.out⟩
theorem acts_nil (w : World) : Calls Try.prog 16 #[.pointer none] w fun e w' => e = .returned (.slice none 0 0) ∧ w' = w := by
  go_enter Try.func16, Try.ntmps16
  go_wp2
  go_ret
  exact ⟨rfl, rfl⟩
end Go.Proofs.Ytbbhichndfbooaa.P
