/- The contracts of move, Reject, Cancel and Post. -/
import Derived.Test.YtbbhichndfbooaaHandFind
namespace Go.Proofs.Ytbbhichndfbooaa.P
open Go.RowKit Go.Proofs.YtbbhichndfbooaaW.PrintWords Go.Proofs.YtbbhichndfbooaaW.PrintLast Go.Proofs.YtbbhichndfbooaaW.PrintMore Go.Maps Go.ChangeShapes Go.WideShapes Go.WideMaps
set_option linter.unusedVariables false
set_option linter.unusedSimpArgs false
/-- The workflow with another document at a number, and an act more. -/
def actedS (S : FlowS) (kind id : Int) (user : ByteArray) (D : DocS) : FlowS := { S with docs := S.docs.set (id - 1).toNat D, acts := S.acts ++ [⟨kind, id, user⟩] }
def docD (S : FlowS) (id : Int) : DocS := (docAt S id).getD ⟨⟨#[]⟩, 0, 0, []⟩
def moveOf (S : FlowS) (kind id : Int) (user : ByteArray) (who st : Int) (sts : List Int) : Int × FlowS :=
  if findOf S id user who sts = 0 then (0, actedS S kind id user { docD S id with st := st }) else (findOf S id user who sts, S)
theorem find_zero {S : FlowS} {id : Int} {user : ByteArray} {who : Int} {sts : List Int} (h : findOf S id user who sts = 0) : ∃ D, docAt S id = some D ∧ codeB user = true ∧ sts.contains D.st = true ∧ permB S D.au who user = true := by
  unfold findOf at h
  cases hd : docAt S id with
  | none =>
    rw [hd] at h
    have h : (1 : Int) = 0 := h
    exact absurd h (by decide)
  | some D =>
    rw [hd] at h
    have h : (if codeB user = false then (7 : Int) else if sts.contains D.st = false then 18 else if permB S D.au who user = true then 0 else 19) = 0 := h
    refine ⟨D, rfl, ?_, ?_, ?_⟩
    · cases hc : codeB user
      · rw [hc, if_pos rfl] at h; exact absurd h (by decide)
      · rfl
    · cases hc : codeB user
      · rw [hc, if_pos rfl] at h; exact absurd h (by decide)
      · rw [hc, if_neg (by decide)] at h
        cases hs : sts.contains D.st
        · rw [hs, if_pos rfl] at h; exact absurd h (by decide)
        · rfl
    · cases hc : codeB user
      · rw [hc, if_pos rfl] at h; exact absurd h (by decide)
      · rw [hc, if_neg (by decide)] at h
        cases hs : sts.contains D.st
        · rw [hs, if_pos rfl] at h; exact absurd h (by decide)
        · rw [hs, if_neg (by decide)] at h
          cases hp : permB S D.au who user
          · rw [hp, if_neg (by decide)] at h; exact absurd h (by decide)
          · rfl
/-- Where find answers 0: the document, its block and its slice. -/
theorem find_there {w : World} {F : Nat → Prop} {p : Nat} {S : FlowS} {L : Parts} (h : FlwP w F p S L) {id : Int} {user : ByteArray} {who : Int} {sts : List Int} (h0 : findOf S id user who sts = 0) :
    ∃ (b : Nat) (v : Value), docOf L id = some b ∧ findPtr L id 0 = .pointer (some ⟨b, 0, none⟩) ∧ L.ds[(id - 1).toNat]? = some b ∧ S.docs[(id - 1).toNat]? = some (docD S id) ∧ L.vp[(id - 1).toNat]? = some v ∧ DocAt w F b (docD S id) v := by
  obtain ⟨D, hd, _⟩ := find_zero h0
  rcases doc_cases h id with ⟨_, h2⟩ | ⟨j, b, E, v, h1, h2, hj, _, a1, a2, a3, hD⟩
  · rw [hd] at h2; cases h2
  · rw [hd] at h2
    obtain rfl := Option.some.inj h2
    have e : docD S id = D := by unfold docD; rw [hd]; rfl
    rw [e, show (id - 1).toNat = j by omega]
    exact ⟨b, v, h1, by unfold findPtr; rw [if_pos rfl, h1]; rfl, a1, a2, a3, hD⟩
set_option maxHeartbeats 4000000 in
set_option maxRecDepth 100000 in
theorem move_calls (p : Nat) (S : FlowS) (F : Nat → Prop) (kind id : Int) (hid : (Lit.int .i64 id).wf = true) (user : ByteArray) (who st : Int) (A : Option Addr) (c : Nat) (sts : List Int) (hl : sts.length ≤ 1000) (w : World) (h : Flw w F p S) (hs : (Kd.int .i64).C w A sts.length sts) (hn : S.acts.length ≤ 1000000) :
    Calls Try.prog 50 #[.pointer (some ⟨p, 0, none⟩), .int .i64 kind, .int .i64 id, .string user, .int .i64 who, .int .i64 st, .slice A sts.length c] w fun e w' => e = .returned (.int .i64 (moveOf S kind id user who st sts).1) ∧ After F w w' p (moveOf S kind id user who st sts).2 := by
  have HFl := Aside0.mk h
  obtain ⟨L, h⟩ := h
  have HP := Aside0.mk h
  have HS := Aside0.mk hs
  unfold moveOf
  obtain ⟨r, hr⟩ : ∃ r, findOf S id user who sts = r := ⟨_, rfl⟩
  by_cases h0 : r = 0
  · subst h0
    rw [if_pos hr]
    obtain ⟨b, v, -, hp, a1, a2, a3, hD⟩ := find_there h hr
    have HA1 := Aside0.mk a1
    have HA2 := Aside0.mk a2
    have HA3 := Aside0.mk a3
    have HD := Aside0.mk hD
    have HPT := Aside0.mk hp
    have HR := Aside0.mk hr
    clear h hs hr hp a1 a2 a3 hD
    go_enter Try.func50, Try.ntmps50
    go_upto_region 5 with (first | (go_at_call 48; refine (find_calls p S L F id hid user who A c sts hl 0 HR.out _ HP.out HS.out).mono ?_; rw [HPT.out]; rintro e w' ⟨rfl, ⟨nd, rfl⟩⟩; have c2 := (blk_cell (blk_drewN HD.out.blk nd) 2).trans rfl; have f2 := blk_frozen (blk_drewN HD.out.blk nd) 2))
    refine with_world (P := fun x => Code.wp _ _ _ _ x) _ ?_
    intro w1 hw1
    have hbF := HD.out.own
    have HF1 := Aside0.mk (show FlwP w1 F p { S with docs := S.docs.set (id - 1).toNat { docD S id with st := st } } { L with vp := L.vp.set (id - 1).toNat v } from by
      rw [hw1]
      refine HP.out.turned_doc HA1.out HA2.out HA3.out (fun _ hk => hk) (fun k hk hb _ => (Below.heap_setCell _ _ _ _ hb).trans rfl) ⟨?_, hbF, ?_⟩ (fun k hk => .inl hk) (fun k hk => ?_)
      · exact blk_put (blk_drewN HD.out.blk nd) 2 _ rfl
      · refine row_over rfl HD.out.row (fun _ hk => hk) (fun k hk => ?_)
        exact (Below.heap_setCell _ _ _ _ (by exact typed_ne (HD.out.tv hk) HD.out.tb (by decide))).trans rfl
      · have := HP.out.lt k hk
        simpa [World.setCell] using this)
    have HS1 := Aside0.mk (show Stp F F w w1 from by
      rw [hw1]
      exact ⟨((But.refl F w).drewN nd).setCell (by exact hbF) _, fun _ hk => .inl hk⟩)
    clear hw1 c2 f2 hbF
    go_wp2_with (first | (go_at_call 47; refine (note_calls p _ _ _ kind id user _ HF1.out hn).mono ?_; rintro e w' ⟨rfl, ha⟩; have HAF := Aside0.mk ha; clear ha))
    go_ret
    exact ⟨rfl, After.then HS1.out HAF.out⟩
  · rw [hr, if_neg h0]
    have hp : findPtr L id r = .pointer none := by unfold findPtr; rw [if_neg h0]; rfl
    have hb : (r != 0) = true := bne_iff_ne.mpr h0
    have HPT := Aside0.mk hp
    have HR := Aside0.mk hr
    clear h hs hr hp h0
    go_enter Try.func50, Try.ntmps50
    go_wp2_with (first | (go_at_call 48; refine (find_calls p S L F id hid user who A c sts hl r HR.out _ HP.out HS.out).mono ?_; rw [HPT.out]; rintro e w' ⟨rfl, ⟨nd, rfl⟩⟩))
    go_ret
    exact ⟨rfl, After.drew HFl.out _⟩
theorem lit_C (W : World) (xs : List Int) (hm : xs.length ≤ 9223372036854775807) : (Kd.int .i64).C (W.alloc (.cells (nums .i64 xs).toArray 3)) (some ⟨W.heap.size, 0, none⟩) xs.length xs :=
  (Kd.R_reads' (Kd.R_of_own (own_lit W 0 3 .i64 xs (Nat.zero_le _) hm) (ok := fun _ => True) (fun _ _ => trivial))).2.2
theorem Flw.alloc {w : World} {F : Nat → Prop} {p : Nat} {S : FlowS} (h : Flw w F p S) (o : Obj) : Flw (w.alloc o) F p S := h.below (below_alloc (Below.refl _ _) o)
theorem Stp.alloc {F G : Nat → Prop} {w w' : World} (h : Stp F G w w') (o : Obj) : Stp F G w (w'.alloc o) := ⟨h.but.alloc o, h.grow⟩
theorem after_alloc {F : Nat → Prop} {w w' : World} {p : Nat} {S : FlowS} {o : Obj} (h : After F (w.alloc o) w' p S) : After F w w' p S := After.then ((Stp.refl F w).alloc o) h
/-- The acts that move and nothing else. -/
def rejectOf (S : FlowS) (id : Int) (user : ByteArray) : Int × FlowS := moveOf S 4 id user 1 4 [2]
def cancelOf (S : FlowS) (id : Int) (user : ByteArray) : Int × FlowS := moveOf S 6 id user 0 6 [1, 4]
def postOf (S : FlowS) (id : Int) (user : ByteArray) : Int × FlowS := moveOf S 7 id user 2 5 [3]
set_option maxHeartbeats 2000000 in
theorem reject_calls (p : Nat) (S : FlowS) (F : Nat → Prop) (id : Int) (hid : (Lit.int .i64 id).wf = true) (user : ByteArray) (w : World) (h : Flw w F p S) (hn : S.acts.length ≤ 1000000) :
    Calls Try.prog 57 #[.pointer (some ⟨p, 0, none⟩), .int .i64 id, .string user] w fun e w' => e = .returned (.int .i64 (rejectOf S id user).1) ∧ After F w w' p (rejectOf S id user).2 := by
  have HF := Aside0.mk h
  clear h
  go_enter Try.func57, Try.ntmps57
  go_wp2_with (first | (go_at_call 50; refine (move_calls p S F 4 id hid user 1 4 (some ⟨w.heap.size, 0, none⟩) 1 [2] (by decide) _ (HF.out.alloc _) (lit_C w [2] (by decide)) hn).mono ?_; rintro e w' ⟨rfl, ha⟩; have HA := Aside0.mk ha; clear ha))
  go_ret
  exact ⟨rfl, after_alloc HA.out⟩
set_option maxHeartbeats 2000000 in
theorem cancel_calls (p : Nat) (S : FlowS) (F : Nat → Prop) (id : Int) (hid : (Lit.int .i64 id).wf = true) (user : ByteArray) (w : World) (h : Flw w F p S) (hn : S.acts.length ≤ 1000000) :
    Calls Try.prog 59 #[.pointer (some ⟨p, 0, none⟩), .int .i64 id, .string user] w fun e w' => e = .returned (.int .i64 (cancelOf S id user).1) ∧ After F w w' p (cancelOf S id user).2 := by
  have HF := Aside0.mk h
  clear h
  go_enter Try.func59, Try.ntmps59
  go_wp2_with (first | (go_at_call 50; refine (move_calls p S F 6 id hid user 0 6 (some ⟨w.heap.size, 0, none⟩) 2 [1, 4] (by decide) _ (HF.out.alloc _) (lit_C w [1, 4] (by decide)) hn).mono ?_; rintro e w' ⟨rfl, ha⟩; have HA := Aside0.mk ha; clear ha))
  go_ret
  exact ⟨rfl, after_alloc HA.out⟩
set_option maxHeartbeats 2000000 in
theorem post_calls (p : Nat) (S : FlowS) (F : Nat → Prop) (id : Int) (hid : (Lit.int .i64 id).wf = true) (user : ByteArray) (w : World) (h : Flw w F p S) (hn : S.acts.length ≤ 1000000) :
    Calls Try.prog 31 #[.pointer (some ⟨p, 0, none⟩), .int .i64 id, .string user] w fun e w' => e = .returned (.int .i64 (postOf S id user).1) ∧ After F w w' p (postOf S id user).2 := by
  have HF := Aside0.mk h
  clear h
  go_enter Try.func31, Try.ntmps31
  go_wp2_with (first | (go_at_call 50; refine (move_calls p S F 7 id hid user 2 5 (some ⟨w.heap.size, 0, none⟩) 1 [3] (by decide) _ (HF.out.alloc _) (lit_C w [3] (by decide)) hn).mono ?_; rintro e w' ⟨rfl, ha⟩; have HA := Aside0.mk ha; clear ha))
  go_ret
  exact ⟨rfl, after_alloc HA.out⟩
end Go.Proofs.Ytbbhichndfbooaa.P
