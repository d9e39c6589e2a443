/- The contract of Submit. -/
import Derived.Test.YtbbhichndfbooaaHandMove
namespace Go.Proofs.Ytbbhichndfbooaa.P
open Go.RowKit Go.Proofs.YtbbhichndfbooaaW.PrintWords Go.Proofs.YtbbhichndfbooaaW.PrintLast Go.Proofs.YtbbhichndfbooaaW.PrintMore Go.Maps Go.ChangeShapes Go.WideShapes Go.WideMaps
set_option linter.unusedVariables false
set_option linter.unusedSimpArgs false
theorem FlwP.alloc {w : World} {F : Nat → Prop} {p : Nat} {S : FlowS} {L : Parts} (h : FlwP w F p S L) (o : Obj) : FlwP (w.alloc o) F p S L := h.below (fun k hk => Below.heap_alloc w o k (h.lt k hk))
def submitOf (S : FlowS) (id : Int) (user : ByteArray) : Int × FlowS :=
  if findOf S id user 0 [1] = 0 then (if (needOf S.steps (docD S id).vo).2 = true then (0, actedS S 2 id user { docD S id with st := settled (docD S id).ap.length (needOf S.steps (docD S id).vo).1 }) else (3, S)) else (findOf S id user 0 [1], S)
/-- A document's state turns: the workflow with it. -/
theorem turned_state {w w' : World} {F : Nat → Prop} {p b : Nat} {S : FlowS} {L : Parts} {j : Nat} {D : DocS} {v : Value} {st : Int} (h : FlwP w F p S L) (h1 : L.ds[j]? = some b) (h2 : S.docs[j]? = some D) (h3 : L.vp[j]? = some v)
    (hb : w'.heap[b]? = some (.cells #[.string D.au, .int .i64 D.vo, .int .i64 st, v] 75 (0, 0))) (hB : But (fun k => k = b) w w') : FlwP w' F p { S with docs := S.docs.set j { D with st := st } } { L with vp := L.vp.set j v } ∧ Stp F F w w' := by
  have hD := h.docs j b D v h1 h2 h3
  refine ⟨h.turned_doc h1 h2 h3 (fun _ hk => hk) (fun k hk hb _ => hB.block k (h.lt k hk) hb) ⟨hb, hD.own, row_over rfl hD.row (fun _ hk => hk) (fun k hk => hB.block k (h.lt k (hD.row.1 k hk)) (typed_ne (hD.tv hk) hD.tb (by decide)))⟩ (fun k hk => .inl hk) (fun k hk => Nat.lt_of_lt_of_le (h.lt k hk) hB.size), hB.mono (fun k _ e => by rw [e]; exact hD.own), fun _ hk => .inl hk⟩
theorem Stp.below {F G : Nat → Prop} {w w1 w' : World} (h : Stp F G w w1) (hb : Below w1.heap.size w1 w') : Stp F G w w' := ⟨⟨hb.os.trans h.but.os, hb.tape.trans h.but.tape, hb.output.trans h.but.output, Nat.le_trans h.but.size hb.size, fun k hk hx => (hb.block k (Nat.lt_of_lt_of_le hk h.but.size)).trans (h.but.block k hk hx)⟩, h.grow⟩
set_option maxHeartbeats 4000000 in
set_option maxRecDepth 100000 in
theorem submit_calls (p : Nat) (S : FlowS) (F : Nat → Prop) (id : Int) (hid : (Lit.int .i64 id).wf = true) (user : ByteArray) (w : World) (h : Flw w F p S) (hn : S.acts.length ≤ 1000000) :
    Calls Try.prog 29 #[.pointer (some ⟨p, 0, none⟩), .int .i64 id, .string user] w fun e w' => e = .returned (.int .i64 (submitOf S id user).1) ∧ After F w w' p (submitOf S id user).2 := by
  have HFl := Aside0.mk h
  obtain ⟨L, h⟩ := h
  have HP := Aside0.mk h
  unfold submitOf
  obtain ⟨r, hr⟩ : ∃ r, findOf S id user 0 [1] = r := ⟨_, rfl⟩
  by_cases h0 : r = 0
  · subst h0
    rw [if_pos hr]
    obtain ⟨b, v, -, hp, a1, a2, a3, hD⟩ := find_there h hr
    obtain ⟨D, hDe⟩ : ∃ D, docD S id = D := ⟨_, rfl⟩
    rw [hDe] at a2 hD ⊢
    obtain ⟨Av, cv, hv⟩ := Kd.R_slice hD.row
    subst hv
    have HA1 := Aside0.mk a1
    have HA2 := Aside0.mk a2
    have HA3 := Aside0.mk a3
    have HD := Aside0.mk hD
    have HPT := Aside0.mk hp
    have HR := Aside0.mk hr
    clear h hr hp a1 a2 a3 hD hDe
    obtain ⟨⟨nn, ok⟩, hne⟩ : ∃ q, needOf S.steps D.vo = q := ⟨_, rfl⟩
    rw [hne]
    have HN := Aside0.mk hne
    clear hne
    cases ok
    · rw [if_neg (by simp)]
      go_enter Try.func29, Try.ntmps29
      go_wp2_with (first | (go_at_call 48; refine (find_calls p S L F id hid user 0 (some ⟨w.heap.size, 0, none⟩) 1 [1] (by decide) 0 HR.out _ (HP.out.alloc _) (lit_C w [1] (by decide))).mono ?_; rw [HPT.out]; rintro e w1 ⟨rfl, hdr⟩; have HB1 := Aside0.mk (below_then (below_alloc (Below.refl _ w) _) (by simp) hdr.below); have c1 := (blk_cell (blk_below HD.out.blk HB1.out) 1).trans rfl; clear hdr) | (go_at_call 13; refine (need_is HN.out (HFl.out.below HB1.out)).mono ?_; rintro e w2 ⟨rfl, hb⟩; have HB := Aside0.mk (below_then HB1.out HB1.out.size hb); clear hb c1))
      go_ret
      exact ⟨rfl, F, HFl.out.below HB.out, (Stp.refl F w).below HB.out⟩
    · rw [if_pos rfl]
      go_enter Try.func29, Try.ntmps29
      go_wp2_with (first | (go_at_call 48; refine (find_calls p S L F id hid user 0 (some ⟨w.heap.size, 0, none⟩) 1 [1] (by decide) 0 HR.out _ (HP.out.alloc _) (lit_C w [1] (by decide))).mono ?_; rw [HPT.out]; rintro e w1 ⟨rfl, hdr⟩; have HB1 := Aside0.mk (below_then (below_alloc (Below.refl _ w) _) (by simp) hdr.below); have c1 := (blk_cell (blk_below HD.out.blk HB1.out) 1).trans rfl; clear hdr) | (go_at_call 13; refine (need_is HN.out (HFl.out.below HB1.out)).mono ?_; rintro e w2 ⟨rfl, hb⟩; have HB := Aside0.mk (below_then HB1.out HB1.out.size hb); clear hb c1) | (go_at_call 49; refine (settle_calls b _ _ _ Av D.ap.length cv nn _ (blk_below HD.out.blk HB.out)).mono ?_; rintro e w3 ⟨rfl, h3, hb3⟩; have HT := Aside0.mk (turned_state (HP.out.below (fun k hk => HB.out.block k (HP.out.lt k hk))) HA1.out HA2.out HA3.out h3 hb3); clear h3 hb3) | (go_at_call 47; refine (note_calls p _ _ _ 2 id user _ HT.out.1 hn).mono ?_; rintro e w4 ⟨rfl, ha⟩; have HAF := Aside0.mk ha; clear ha))
      go_ret
      exact ⟨rfl, After.then (((Stp.refl F w).below HB.out).trans HT.out.2) HAF.out⟩
  · rw [hr, if_neg h0]
    have hp : findPtr L id r = .pointer none := by unfold findPtr; rw [if_neg h0]; rfl
    have hb : (r != 0) = true := bne_iff_ne.mpr h0
    have HPT := Aside0.mk hp
    have HR := Aside0.mk hr
    clear h hr hp h0
    go_enter Try.func29, Try.ntmps29
    go_wp2_with (first | (go_at_call 48; refine (find_calls p S L F id hid user 0 (some ⟨w.heap.size, 0, none⟩) 1 [1] (by decide) r HR.out _ (HP.out.alloc _) (lit_C w [1] (by decide))).mono ?_; rw [HPT.out]; rintro e w' ⟨rfl, ⟨nd, rfl⟩⟩))
    go_ret
    exact ⟨rfl, after_alloc (After.drew (HFl.out.alloc _) _)⟩
end Go.Proofs.Ytbbhichndfbooaa.P
