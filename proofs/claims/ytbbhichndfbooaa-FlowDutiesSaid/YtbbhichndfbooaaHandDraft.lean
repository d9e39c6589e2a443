/- The contract of Draft. -/
import Derived.Test.YtbbhichndfbooaaHandNote
namespace Go.Proofs.Ytbbhichndfbooaa.P
open Go.RowKit Go.Proofs.YtbbhichndfbooaaW.PrintWords Go.Proofs.YtbbhichndfbooaaW.PrintLast Go.Proofs.YtbbhichndfbooaaW.PrintMore Go.Maps Go.ChangeShapes Go.WideShapes Go.WideMaps
set_option linter.unusedVariables false
set_option linter.unusedSimpArgs false
def codeB (a : ByteArray) : Bool := decide (0 < a.size) && (decide (a.size ≤ 12) && allFrom isCodeByte a 0)
theorem code_calls (a : ByteArray) (w : World) : Calls Try.prog 33 #[.string a] w fun e w' => e = .returned (.bool (codeB a)) ∧ Drawn0 w w' := words_Code.calls a _ w rfl
theorem code_is {a : ByteArray} {b : Bool} (h : codeB a = b) (w : World) : Calls Try.prog 33 #[.string a] w fun e w' => e = .returned (.bool b) ∧ Drawn0 w w' := by
  rw [← h]
  exact code_calls a w
theorem FlwP.drewN {w : World} {F : Nat → Prop} {p : Nat} {S : FlowS} {L : Parts} (h : FlwP w F p S L) (n : Nat) : FlwP (w.drewN n) F p S L := h.below (fun _ _ => rfl)
theorem Flw.drewN {w : World} {F : Nat → Prop} {p : Nat} {S : FlowS} (h : Flw w F p S) (n : Nat) : Flw (w.drewN n) F p S := h.keep (fun _ _ => rfl)
theorem Stp.drewN {F G : Nat → Prop} {w w' : World} (h : Stp F G w w') (n : Nat) : Stp F G w (w'.drewN n) := ⟨h.but.drewN n, h.grow⟩
theorem After.drew {F : Nat → Prop} {w : World} {p : Nat} {S : FlowS} (h : Flw w F p S) (n : Nat) : After F w (w.drewN n) p S := ⟨F, h.drewN n, (Stp.refl F w).drewN n⟩
def draftOf (S : FlowS) (user : ByteArray) (vol : Int) : Int × Int × FlowS :=
  if codeB user = false then (0, 7, S) else if vol < 0 then (0, 2, S) else if 10000 ≤ S.docs.length then (0, 9, S)
  else ((S.docs.length : Int) + 1, 0, { S with docs := S.docs ++ [⟨user, vol, 1, []⟩], acts := S.acts ++ [⟨1, (S.docs.length : Int) + 1, user⟩] })
set_option maxHeartbeats 4000000 in
set_option maxRecDepth 100000 in
theorem draft_calls (p : Nat) (S : FlowS) (F : Nat → Prop) (user : ByteArray) (vol : Int) (w : World) (h : Flw w F p S) (hn : S.acts.length ≤ 1000000) :
    Calls Try.prog 28 #[.pointer (some ⟨p, 0, none⟩), .string user, .int .i64 vol] w fun e w' => e = .returned (.tuple #[.int .i64 (draftOf S user vol).1, .int .i64 (draftOf S user vol).2.1]) ∧ After F w w' p (draftOf S user vol).2.2 := by
  have HFl := Aside0.mk h
  unfold draftOf
  cases hc : codeB user
  · rw [if_pos rfl]
    have HC := Aside0.mk hc
    clear hc h
    go_enter Try.func28, Try.ntmps28
    go_wp2_with (first | (go_at_call 33; refine (code_is HC.out _).mono ?_; rintro e w' ⟨rfl, ⟨nd, rfl⟩⟩))
    go_ret2
    exact ⟨rfl, After.drew HFl.out _⟩
  rw [if_neg (by simp)]
  have HC := Aside0.mk hc
  clear hc
  by_cases hv : vol < 0
  · rw [if_pos hv]
    have hd : decide (vol < 0) = true := decide_eq_true hv
    clear h
    go_enter Try.func28, Try.ntmps28
    go_wp2_with (first | (go_at_call 33; refine (code_is HC.out _).mono ?_; rintro e w' ⟨rfl, ⟨nd, rfl⟩⟩))
    go_ret2
    exact ⟨rfl, After.drew HFl.out _⟩
  rw [if_neg hv]
  have hd : decide (vol < 0) = false := decide_eq_false hv
  obtain ⟨⟨vs, m, vd, va, ds, vp⟩, h⟩ := h
  obtain ⟨A, c, e⟩ := Kd.R_slice h.rowd
  have e : vd = .slice A ds.length c := e
  subst e
  have hl : ds.length = S.docs.length := h.lend
  have BK : w.heap[p]? = some (.cells #[vs, .map (some m), .slice A ds.length c, va] 67 (0, 0)) := h.blk
  have HF := Aside0.mk h
  have HBK := Aside0.mk BK
  have HL := Aside0.mk hl
  clear h hl
  by_cases hm : 10000 ≤ S.docs.length
  · rw [if_pos hm]
    have c2 := (fun n => (blk_cell (blk_drewN BK n) 2).trans rfl)
    have hd2 : decide ((10000 : Int) ≤ (ds.length : Int)) = true := decide_eq_true (by rw [HL.out]; omega)
    clear BK
    go_enter Try.func28, Try.ntmps28
    go_wp2_with (first | (go_at_call 33; refine (code_is HC.out _).mono ?_; rintro e w' ⟨rfl, ⟨nd, rfl⟩⟩; have c2' := c2 nd))
    go_ret2
    exact ⟨rfl, After.drew HFl.out _⟩
  · rw [if_neg hm]
    have hd2 : decide ((10000 : Int) ≤ (ds.length : Int)) = false := decide_eq_false (by rw [HL.out]; omega)
    have c2 := (fun n => (blk_cell (blk_drewN BK n) 2).trans rfl)
    clear BK
    go_enter Try.func28, Try.ntmps28
    go_upto_region 9 with (first | (go_at_call 33; refine (code_is HC.out _).mono ?_; rintro e w' ⟨rfl, ⟨nd, rfl⟩⟩; have c2' := c2 nd))
    clear c2 c2' e
    refine with_world (P := fun x => Code.wp _ _ _ _ x) _ ?_
    intro w1 hw1
    have HF1 := Aside0.mk (show FlwP w1 F p S ⟨vs, m, .slice A ds.length c, va, ds, vp⟩ from hw1 ▸ HF.out.drewN nd)
    have HS1 := Aside0.mk (show Stp F F w w1 from hw1 ▸ (Stp.refl F w).drewN nd)
    have BK1 : w1.heap[p]? = some (.cells #[vs, .map (some m), .slice A ds.length c, va] 67 (0, 0)) := HF1.out.blk
    clear hw1 HFl HF HBK
    have c2 := (blk_cell BK1 2).trans rfl
    have HBK := Aside0.mk BK1
    clear BK1
    go_upto_region 10 with (first | ((with_reducible refine gate_dst (N := 33) rfl ?_); refine box_event ?hg (N := 33) ?hd (cs := #[.string user, .int .i64 vol, .int .i64 1, .slice none 0 0]) (t := 75) ?hr ?_; (case hd => rfl); (case hg => rfl); (case hr => first | (go_simp; done) | (go_simp; rfl)); intro b hb w2 hbox hbb; have HF2 := Aside0.mk (HF1.out.below (fun k hk => hbb.block k (HF1.out.lt k hk))); have HN2 := Aside0.mk (show ∀ k, F k → k < b from fun k hk => hb ▸ HF1.out.lt k hk); have HBX := Aside0.mk hbox; have HB12 := Aside0.mk hbb; have HBE := Aside0.mk hb; have c2b := (hbb.cell (World.block_lt_of_cell? w1 _ c2)).trans c2; clear c2 hb hbox hbb) | ((with_reducible refine gate_builtin (b := .append) (xs := #[.tmp 29, .tmp 34]) rfl ?_); at_builtin; refine Kd.R_append kP (w0 := w2) 0 rfl (.tmp 29) (.tmp 34) 65 72 (.pointer none) 8 rfl Try.underlying65 info72 rfl (by decide) (by omega) (.slice A ds.length c) ds b [.pointer (some ⟨b, 0, none⟩)] (fun k => F k ∨ b < k) (fun _ => False) rfl rfl ?aP (fun _ hk => hk.elim) ?aF ?aO ?aB ?aS ?aL ?_; (case aP => exact rfl); (case aF => exact fun k hk => .inr (Nat.lt_of_lt_of_le (blk_lt HBX.out) hk)); (case aO => exact Kd.R_mono HF2.out.rowd (fun k hk => .inl hk)); (case aB => exact Below.refl _ _); (case aS => exact Nat.zero_le _); (case aL => have := HL.out; omega); intro v1 w3 ho hb hg hat; obtain ⟨A1, c1, rfl⟩ := Kd.R_slice ho; have HO := Aside0.mk ho; have HG := Aside0.mk hg; have HB1 := Aside0.mk (blk_grown HF2.out.blk hg (fun e => typed_ne (HF2.out.td e.symm) HF2.out.tp (by decide) rfl)); have HD1 := Aside0.mk (blk_grown HBX.out hg (fun e => by have := HN2.out _ (HF2.out.rowd.1 _ e.symm); omega)); have f2' := blk_frozen HB1.out 2; have c2' := (blk_cell HB1.out 2).trans rfl; clear c2b ho hb hg hat))
    refine with_world (P := fun x => Code.wp _ _ _ _ x) _ ?_
    intro w4 hw4
    have h := HF2.out
    have hg := HG.out
    have hsz : w2.heap.size ≤ w3.heap.size := hg.size
    have hst : w4.heap.size = w3.heap.size := by rw [hw4]; simp [World.setCell]
    have hbl : b < w3.heap.size := blk_lt HD1.out
    have hbp : b ≠ p := by have := HN2.out p h.own; omega
    have h0 := HO.out
    rw [show (ds ++ [b]).length = ds.length + 1 by simp] at h0
    have HF4 := Aside0.mk (show FlwP w4 (fun k => (F k ∨ b ≤ k) ∧ k < w3.heap.size) p { S with docs := S.docs ++ [⟨user, vol, 1, []⟩] } { vs := vs, m := m, vd := .slice A1 (ds.length + 1) c1, va := va, ds := ds ++ [b], vp := vp ++ [.slice none 0 0] } from by
      rw [hw4]
      refine h.turned_docs (fun k hk => ⟨.inl hk, Nat.lt_of_lt_of_le (h.lt k hk) hsz⟩) (fun k hk hp ha => ?_) (blk_put HB1.out 2 _ rfl) ?_ ⟨?_, ⟨.inr (Nat.le_refl _), hbl⟩, Kd.R_nil _ _ _ _ _⟩ (fun x hx => ?_) (fun u _ k _ hk => by cases hk) (fun k hk => by rw [← hw4, hst]; exact hk.2)
      · rw [Below.heap_setCell _ _ _ _ hp]
        exact hg.block k (h.lt k hk) (fun e => ha e.symm)
      · exact Kd.R_mono (Kd.R_far (Kd.R_types (Kd.R_bound h0) HB1.out (by decide)) (fun k hk => hk.2) _) (fun k hk => ⟨hk.1.1.imp (fun h => h) (fun h => Nat.le_of_lt h), hk.1.2.2.1⟩)
      · exact (Below.heap_setCell _ _ _ _ hbp).trans HD1.out
      · have := HN2.out x (h.ds_own hx)
        omega)
    have HS4 := Aside0.mk (show Stp F (fun k => (F k ∨ b ≤ k) ∧ k < w3.heap.size) w w4 from by
      refine HS1.out.trans ⟨?_, fun k hk => hk.1.imp (fun h => h) (fun h => by rw [HBE.out] at h; exact h)⟩
      rw [hw4]
      exact ((But.of_below HB12.out F).trans (But.of_grown hg (fun k hk => h.rowd.1 k hk))).setCell h.own _)
    clear hw4 h hg hsz hst hbl hbp h0 HS1 HF1 HF2 HN2 HBX HB12 HBE HO HG HB1 HD1 HBK
    have BK4 := HF4.out.blk
    have c4 := (blk_cell BK4 2).trans rfl
    clear BK4
    go_wp2_with (first | (go_at_call 47; refine (note_calls p _ _ _ 1 _ user _ HF4.out hn).mono ?_; rintro e w' ⟨rfl, G2, ⟨L2, h2⟩, hs2⟩; obtain ⟨A2, c2, e2⟩ := Kd.R_slice h2.rowd; have BK5 := h2.blk; rw [e2] at BK5; have c5 := (blk_cell BK5 2).trans rfl; have HL2 := Aside0.mk h2.lend; have HF5 := Aside0.mk h2; have HS5 := Aside0.mk hs2; clear BK5 e2 h2 hs2 c4))
    go_ret2
    have hl2 : L2.ds.length = S.docs.length + 1 := by rw [HL2.out]; simp
    refine ⟨by rw [hl2]; push_cast; rfl, ?_⟩
    have HA := After.then HS4.out ⟨G2, ⟨L2, HF5.out⟩, HS5.out⟩
    rw [HL.out] at HA
    exact HA
theorem draft_nil (user : ByteArray) (vol : Int) (w : World) : Calls Try.prog 28 #[.pointer none, .string user, .int .i64 vol] w fun e w' => e = .returned (.tuple #[.int .i64 0, .int .i64 1]) ∧ w' = w := by
  go_enter Try.func28, Try.ntmps28
  go_wp2
  go_ret2
  exact ⟨rfl, rfl⟩
end Go.Proofs.Ytbbhichndfbooaa.P
