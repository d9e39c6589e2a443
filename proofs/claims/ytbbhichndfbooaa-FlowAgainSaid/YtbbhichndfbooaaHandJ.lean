/- Texts of mine, joined: HandNeed, HandNote, HandDraft, HandFind, HandMove, HandSub, HandApp, HandRed, HandOut. -/
import Derived.Test.YtbbhichndfbooaaHandF
import Derived.Lib.SliceRun
/- The contracts of the workflow's methods that only read: Need, doc, State, Author. -/
namespace Go.Proofs.Ytbbhichndfbooaa.P
open Go.RowKit Go.Proofs.YtbbhichndfbooaaW.PrintWords Go.Proofs.YtbbhichndfbooaaW.PrintLast Go.Proofs.YtbbhichndfbooaaW.PrintMore Go.Maps Go.ChangeShapes Go.WideShapes Go.WideMaps
set_option linter.unusedVariables false
set_option linter.unusedSimpArgs false
def needAt (steps : List S60) (v : Int) (k : Nat) : Int × Bool := match (steps.drop k).find? (fun s => decide (s.f0 ≥ v)) with | some s => (s.f1, true) | none => (0, false)
def needOf (steps : List S60) (v : Int) : Int × Bool := needAt steps v 0
theorem needAt_succ (steps : List S60) (v : Int) {k : Nat} (h : k < steps.length) : needAt steps v k = if (rd_T60 steps (k : Int)).f0 ≥ v then ((rd_T60 steps (k : Int)).f1, true) else needAt steps v (k + 1) := by
  have e : steps.drop k = rd_T60 steps (k : Int) :: steps.drop (k + 1) := by
    rw [show rd_T60 steps (k : Int) = steps[k] by simp [rd_T60, h], List.drop_eq_getElem_cons h]
  unfold needAt
  rw [e, List.find?_cons]
  by_cases c : (rd_T60 steps (k : Int)).f0 ≥ v
  · rw [decide_eq_true c, if_pos c]
  · rw [decide_eq_false c, if_neg c]
theorem needAt_end (steps : List S60) (v : Int) : needAt steps v steps.length = (0, false) := by
  unfold needAt
  rw [List.drop_length]
  rfl
theorem stepsLen {w : World} {F : Nat → Prop} {v : Value} {xs : List S60} (h : k60.R 60 w 0 F v xs) : xs.length ≤ maxLen := by
  obtain ⟨_, inner, h1, _⟩ := h
  rcases h1.2 with ⟨_, h2⟩ | ⟨g, cap, cur, _, _, _, h3, h4, _⟩
  · simp [h2]
  · omega
set_option maxHeartbeats 4000000 in
set_option maxRecDepth 100000 in
theorem need_calls (p : Nat) (S : FlowS) (F : Nat → Prop) (v : Int) (w : World) (h : Flw w F p S) :
    Calls Try.prog 13 #[.pointer (some ⟨p, 0, none⟩), .int .i64 v] w fun e w' => e = .returned (.tuple #[.int .i64 (needOf S.steps v).1, .bool (needOf S.steps v).2]) ∧ Below w.heap.size w w' := by
  obtain ⟨L, h⟩ := h
  obtain ⟨A, c, hv⟩ := Kd.R_slice h.steps
  have hlen := stepsLen h.steps
  unfold maxLen at hlen
  have BK := h.blk
  have hR := h.steps
  have hfl := h.lt _ h.own
  rw [hv] at BK hR
  have c0 := (blk_cell BK 0).trans rfl
  have hC := (Kd.R_reads' hR).2.2
  have HR := Aside0.mk hC
  clear hC hR
  go_enter Try.func13, Try.ntmps13
  go_wp2
  clear c0
  go_loopw [7, 15, 16, 17, 18, 19, 20, 21, 22, 23, 24, 25] (fun _ v15 _ _ _ _ _ _ _ _ _ _ wr => ∃ k : Nat, k ≤ S.steps.length ∧ v15 = .int .i64 k ∧ Aside0 (Below w.heap.size w wr) ∧ Aside0 (needOf S.steps v = needAt S.steps v k)) (fun _ v15 _ _ _ _ _ _ _ _ _ _ _ => S.steps.length - (intOf v15).toNat)
  case atStart => exact ⟨0, Nat.zero_le _, rfl, ⟨Below.refl _ _⟩, ⟨rfl⟩⟩
  case round =>
    obtain ⟨k, hk, rfl, HB, HN⟩ := hrel
    by_cases hlt : k < S.steps.length
    · obtain ⟨ad, e, q0, q1⟩ := at_T60 (Kd.C_below HR.out HB.out) (k : Int) (by omega) (by omega)
      subst e
      rw [Int.toNat_natCast] at q0 q1
      have d1 : decide ((k : Int) < (S.steps.length : Int)) = true := decide_eq_true (by omega)
      have d2 : decide (k < S.steps.length) = true := decide_eq_true hlt
      have p0 : (0 : Int) ≤ (k : Int) := by omega
      have p1 : (k : Int) < (S.steps.length : Int) := by omega
      go_upto_region 6 with (fail)
      refine with_world (P := fun x => Code.wp _ _ _ _ x) _ ?_
      intro w3 hw3
      have B3 : Below w.heap.size w w3 := by rw [hw3]; repeat (first | exact HB.out | apply below_alloc | apply pw_below_drewN | apply below_drew)
      have BS3 : w3.heap[wr.heap.size]? = some (.cells #[.int .i64 (rd_T60 S.steps (k : Int)).f0, .int .i64 (rd_T60 S.steps (k : Int)).f1] 60 (0, 0)) := by rw [hw3]; exact blk_new wr _
      obtain ⟨sn, hsn⟩ : ∃ sn, wr.heap.size = sn := ⟨_, rfl⟩
      rw [hsn] at BS3 ⊢
      clear hw3 q0 q1
      have f0 := (blk_cell BS3 0).trans rfl
      have f1 := (blk_cell BS3 1).trans rfl
      have HB3 := Aside0.mk B3
      clear B3 BS3
      have HS := Aside0.mk (needAt_succ S.steps v hlt)
      obtain ⟨st, hst⟩ : ∃ st, rd_T60 S.steps (k : Int) = st := ⟨_, rfl⟩
      rw [hst] at f0 f1 HS
      clear hst
      by_cases hc : st.f0 ≥ v
      · have hd : decide (v ≤ st.f0) = true := decide_eq_true hc
        go_wp2
        go_ret2
        rw [HN.out, HS.out, if_pos hc]
        exact ⟨rfl, HB3.out⟩
      · have hd : decide (v ≤ st.f0) = false := decide_eq_false hc
        go_wp2
        go_roundw
        case rel => exact ⟨k + 1, by omega, by go_num, HB3, ⟨by rw [HN.out, HS.out, if_neg hc]⟩⟩
        case measure => simp [intOf]; omega
    · obtain rfl : k = S.steps.length := by omega
      have d1 : decide ((S.steps.length : Int) < (S.steps.length : Int)) = false := decide_eq_false (by omega)
      go_wp2
      go_ret2
      rw [HN.out, needAt_end]
      exact ⟨rfl, HB.out⟩
theorem need_is {p : Nat} {S : FlowS} {F : Nat → Prop} {v nn : Int} {ok : Bool} (hn : needOf S.steps v = (nn, ok)) {w : World} (h : Flw w F p S) :
    Calls Try.prog 13 #[.pointer (some ⟨p, 0, none⟩), .int .i64 v] w fun e w' => e = .returned (.tuple #[.int .i64 nn, .bool ok]) ∧ Below w.heap.size w w' := by
  have := need_calls p S F v w h
  rw [hn] at this
  exact this
theorem need_nil (v : Int) (w : World) : Calls Try.prog 13 #[.pointer none, .int .i64 v] w fun e w' => e = .returned (.tuple #[.int .i64 0, .bool false]) ∧ w' = w := by
  go_enter Try.func13, Try.ntmps13
  go_wp2
  go_ret2
  exact ⟨rfl, rfl⟩
/-- The block of a document, by its number. -/
def docOf (L : Parts) (id : Int) : Option Nat := if id < 1 then none else if id > L.ds.length then none else L.ds[(id - 1).toNat]?
def ptrOf : Option Nat → Value
  | none => .pointer none
  | some b => .pointer (some ⟨b, 0, none⟩)
theorem at_kP {w : World} {A : Option Addr} {n : Nat} {xs : List Nat} (h : Kd.C kP w A n xs) (j : Nat) (hj : j < xs.length) (hn : xs.length = n) : ∃ ad, A = some ad ∧ w.cell? (ad.add j) = some (.pointer (some ⟨xs[j], 0, none⟩)) := by
  obtain ⟨ad, c, e, _, hK, hc⟩ := Kd.C_get h 0 (j : Int) (by omega) (by omega)
  have hK : c = [.pointer (some ⟨xs.getD (j : Int).toNat 0, 0, none⟩)] := hK
  subst hK
  refine ⟨ad, e, ?_⟩
  have := hc 0 _ rfl
  rw [Int.toNat_natCast] at this
  have h2 : w.cell? (ad.add (j * 1 + 0)) = some (.pointer (some ⟨xs.getD j 0, 0, none⟩)) := this
  rw [Nat.mul_one, Nat.add_zero] at h2
  rw [h2]
  simp [hj]
theorem rowLen {α : Type} {d : Kd α} {e : Nat} {w : World} {F : Nat → Prop} {v : Value} {xs : List α} (h : d.R e w 0 F v xs) : xs.length ≤ maxLen := by
  obtain ⟨_, inner, h1, _⟩ := h
  rcases h1.2 with ⟨_, h2⟩ | ⟨g, cap, cur, _, _, _, h3, h4, _⟩
  · simp [h2]
  · omega
set_option maxHeartbeats 4000000 in
set_option maxRecDepth 100000 in
theorem doc_calls (p : Nat) (S : FlowS) (L : Parts) (F : Nat → Prop) (id : Int) (hid : (Lit.int .i64 id).wf = true) (w : World) (h : FlwP w F p S L) :
    Calls Try.prog 36 #[.pointer (some ⟨p, 0, none⟩), .int .i64 id] w fun e w' => e = .returned (ptrOf (docOf L id)) ∧ w' = w := by
  obtain ⟨A, c, hv⟩ := Kd.R_slice h.rowd
  have hlen := rowLen h.rowd
  unfold maxLen at hlen
  have BK := h.blk
  have hR := h.rowd
  rw [hv] at BK hR
  have c2 := (blk_cell BK 2).trans rfl
  have hC := (Kd.R_reads' hR).2.2
  have e1 : (decide (id < 1)) = decide (id < 1) := rfl
  have hw : -9223372036854775808 ≤ id ∧ id ≤ 9223372036854775807 := by
    have h : (decide (IntKind.i64.min ≤ id) && decide (id ≤ IntKind.i64.max)) = true := hid
    rw [Bool.and_eq_true, decide_eq_true_iff, decide_eq_true_iff] at h
    exact ⟨h.1, h.2⟩
  unfold docOf
  by_cases h1 : id < 1
  · have d1 : decide (id < 1) = true := decide_eq_true h1
    rw [if_pos h1]
    clear hC hR BK
    go_enter Try.func36, Try.ntmps36
    go_wp2
    go_ret
    exact ⟨rfl, rfl⟩
  · have d1 : decide (id < 1) = false := decide_eq_false h1
    rw [if_neg h1]
    by_cases h2 : id > L.ds.length
    · have d2 : decide ((L.ds.length : Int) < id) = true := decide_eq_true h2
      rw [if_pos h2]
      clear hC hR BK
      go_enter Try.func36, Try.ntmps36
      go_wp2
      go_ret
      exact ⟨rfl, rfl⟩
    · have d2 : decide ((L.ds.length : Int) < id) = false := decide_eq_false h2
      rw [if_neg h2]
      obtain ⟨j, rfl⟩ : ∃ j : Nat, id = (j : Int) + 1 := ⟨(id - 1).toNat, by omega⟩
      have hj : j < L.ds.length := by omega
      obtain ⟨ad, e, hc⟩ := at_kP hC j hj rfl
      subst e
      have e2 : wrap64 ((j : Int) + 1 - 1) = (j : Int) := by unfold wrap64; omega
      have p0 : (0 : Int) ≤ (j : Int) := by omega
      have p1 : (j : Int) < (L.ds.length : Int) := by omega
      have e3 : L.ds[((j : Int) + 1 - 1).toNat]? = some (L.ds[j]) := by
        rw [show ((j : Int) + 1 - 1).toNat = j by omega]
        exact List.getElem?_eq_getElem hj
      rw [e3]
      clear hC hR BK e3
      go_enter Try.func36, Try.ntmps36
      go_wp2
      go_ret
      exact ⟨rfl, rfl⟩
theorem doc_nil (id : Int) (w : World) : Calls Try.prog 36 #[.pointer none, .int .i64 id] w fun e w' => e = .returned (.pointer none) ∧ w' = w := by
  go_enter Try.func36, Try.ntmps36
  go_wp2
  go_ret
  exact ⟨rfl, rfl⟩
/-- A document, by its number. -/
def docAt (S : FlowS) (id : Int) : Option DocS := if id < 1 then none else if id > S.docs.length then none else S.docs[(id - 1).toNat]?
theorem doc_cases {w : World} {F : Nat → Prop} {p : Nat} {S : FlowS} {L : Parts} (h : FlwP w F p S L) (id : Int) :
    (docOf L id = none ∧ docAt S id = none) ∨ (∃ (j : Nat) (b : Nat) (D : DocS) (v : Value), docOf L id = some b ∧ docAt S id = some D ∧ id = (j : Int) + 1 ∧ j < S.docs.length ∧ L.ds[j]? = some b ∧ S.docs[j]? = some D ∧ L.vp[j]? = some v ∧ DocAt w F b D v) := by
  unfold docOf docAt
  rw [h.lend]
  by_cases h1 : id < 1
  · rw [if_pos h1, if_pos h1]
    exact .inl ⟨rfl, rfl⟩
  · rw [if_neg h1, if_neg h1]
    by_cases h2 : id > S.docs.length
    · rw [if_pos h2, if_pos h2]
      exact .inl ⟨rfl, rfl⟩
    · rw [if_neg h2, if_neg h2]
      obtain ⟨j, rfl⟩ : ∃ j : Nat, id = (j : Int) + 1 := ⟨(id - 1).toNat, by omega⟩
      have hj : j < S.docs.length := by omega
      have a1 : L.ds[j]? = some (L.ds[j]'(by rw [h.lend]; exact hj)) := List.getElem?_eq_getElem _
      have a2 : S.docs[j]? = some (S.docs[j]) := List.getElem?_eq_getElem _
      have a3 : L.vp[j]? = some (L.vp[j]'(by rw [h.lenp]; exact hj)) := List.getElem?_eq_getElem _
      rw [show ((j : Int) + 1 - 1).toNat = j by omega]
      exact .inr ⟨j, _, _, _, a1, a2, rfl, hj, a1, a2, a3, h.docs _ _ _ _ a1 a2 a3⟩
theorem doc_none {p : Nat} {S : FlowS} {L : Parts} {F : Nat → Prop} {id : Int} (hid : (Lit.int .i64 id).wf = true) {w : World} (h : FlwP w F p S L) (hd : docOf L id = none) :
    Calls Try.prog 36 #[.pointer (some ⟨p, 0, none⟩), .int .i64 id] w fun e w' => e = .returned (.pointer none) ∧ w' = w := by
  have := doc_calls p S L F id hid w h
  rw [hd] at this
  exact this
theorem doc_some {p : Nat} {S : FlowS} {L : Parts} {F : Nat → Prop} {id : Int} (hid : (Lit.int .i64 id).wf = true) {w : World} {b : Nat} (h : FlwP w F p S L) (hd : docOf L id = some b) :
    Calls Try.prog 36 #[.pointer (some ⟨p, 0, none⟩), .int .i64 id] w fun e w' => e = .returned (.pointer (some ⟨b, 0, none⟩)) ∧ w' = w := by
  have := doc_calls p S L F id hid w h
  rw [hd] at this
  exact this
def stOf (S : FlowS) (id : Int) : Int := match docAt S id with | some D => D.st | none => 0
def auOf (S : FlowS) (id : Int) : ByteArray := match docAt S id with | some D => D.au | none => ⟨#[]⟩
def apOf (S : FlowS) (id : Int) : List ByteArray := match docAt S id with | some D => D.ap | none => []
set_option maxHeartbeats 2000000 in
theorem state_calls (p : Nat) (S : FlowS) (F : Nat → Prop) (id : Int) (hid : (Lit.int .i64 id).wf = true) (w : World) (h : Flw w F p S) :
    Calls Try.prog 15 #[.pointer (some ⟨p, 0, none⟩), .int .i64 id] w fun e w' => e = .returned (.int .i64 (stOf S id)) ∧ w' = w := by
  obtain ⟨L, h⟩ := h
  unfold stOf
  rcases doc_cases h id with ⟨h1, h2⟩ | ⟨j, b, D, v, h1, h2, -, -, -, -, -, hD⟩
  · rw [h2]
    go_enter Try.func15, Try.ntmps15
    go_wp2_with (first | (go_at_call 36; refine (doc_none hid h h1).mono ?_; rintro e w' ⟨rfl, rfl⟩))
    go_ret
    exact ⟨rfl, rfl⟩
  · rw [h2]
    have c2 := (blk_cell hD.blk 2).trans rfl
    go_enter Try.func15, Try.ntmps15
    go_wp2_with (first | (go_at_call 36; refine (doc_some hid h h1).mono ?_; rintro e w' ⟨rfl, rfl⟩))
    go_ret
    exact ⟨rfl, rfl⟩
theorem state_nil (id : Int) (w : World) : Calls Try.prog 15 #[.pointer none, .int .i64 id] w fun e w' => e = .returned (.int .i64 0) ∧ w' = w := by
  go_enter Try.func15, Try.ntmps15
  go_wp2_with (first | (go_at_call 36; refine (doc_nil id _).mono ?_; rintro e w' ⟨rfl, rfl⟩))
  go_ret
  exact ⟨rfl, rfl⟩
set_option maxHeartbeats 2000000 in
theorem author_calls (p : Nat) (S : FlowS) (F : Nat → Prop) (id : Int) (hid : (Lit.int .i64 id).wf = true) (w : World) (h : Flw w F p S) :
    Calls Try.prog 25 #[.pointer (some ⟨p, 0, none⟩), .int .i64 id] w fun e w' => e = .returned (.string (auOf S id)) ∧ w' = w := by
  obtain ⟨L, h⟩ := h
  unfold auOf
  rcases doc_cases h id with ⟨h1, h2⟩ | ⟨j, b, D, v, h1, h2, -, -, -, -, -, hD⟩
  · rw [h2]
    go_enter Try.func25, Try.ntmps25
    go_wp2_with (first | (go_at_call 36; refine (doc_none hid h h1).mono ?_; rintro e w' ⟨rfl, rfl⟩))
    go_ret
    exact ⟨rfl, rfl⟩
  · rw [h2]
    have c0 := (blk_cell hD.blk 0).trans rfl
    go_enter Try.func25, Try.ntmps25
    go_wp2_with (first | (go_at_call 36; refine (doc_some hid h h1).mono ?_; rintro e w' ⟨rfl, rfl⟩))
    go_ret
    exact ⟨rfl, rfl⟩
theorem author_nil (id : Int) (w : World) : Calls Try.prog 25 #[.pointer none, .int .i64 id] w fun e w' => e = .returned (.string ⟨#[]⟩) ∧ w' = w := by
  go_enter Try.func25, Try.ntmps25
  go_wp2_with (first | (go_at_call 36; refine (doc_nil id _).mono ?_; rintro e w' ⟨rfl, rfl⟩))
  go_ret
  exact ⟨rfl, rfl⟩
end Go.Proofs.Ytbbhichndfbooaa.P

/- The contracts of note and Draft: what is appended to a workflow. -/
namespace Go.Proofs.Ytbbhichndfbooaa.P
open Go.RowKit Go.Proofs.YtbbhichndfbooaaW.PrintWords Go.Proofs.YtbbhichndfbooaaW.PrintLast Go.Proofs.YtbbhichndfbooaaW.PrintMore Go.Maps Go.ChangeShapes Go.WideShapes Go.WideMaps
set_option linter.unusedVariables false
set_option linter.unusedSimpArgs false
theorem info55 : (Try.prog.info? 55).map (fun i => (i.zero, i.size, i.bytes)) = some (some (.agg #[.int .i64 0, .int .i64 0, .string ⟨#[]⟩]), 3, 32) := by kernel_rfl
theorem info72 : (Try.prog.info? 72).map (fun i => (i.zero, i.size, i.bytes)) = some (some (.pointer none), 1, 8) := by kernel_rfl
theorem info9 : (Try.prog.info? 9).map (fun i => (i.zero, i.size, i.bytes)) = some (some (.string ⟨#[]⟩), 1, 16) := by kernel_rfl
set_option maxHeartbeats 4000000 in
set_option maxRecDepth 100000 in
theorem note_calls (p : Nat) (S : FlowS) (L : Parts) (F : Nat → Prop) (kind id : Int) (user : ByteArray) (w : World) (h : FlwP w F p S L) (hn : S.acts.length ≤ 1000000) :
    Calls Try.prog 47 #[.pointer (some ⟨p, 0, none⟩), .int .i64 kind, .int .i64 id, .string user] w fun e w' => e = .returned (.tuple #[]) ∧ After F w w' p { S with acts := S.acts ++ [⟨kind, id, user⟩] } := by
  obtain ⟨vs, m, vd, va, ds, vp⟩ := L
  obtain ⟨A, c, e⟩ := Kd.R_slice h.acts
  have e : va = .slice A S.acts.length c := e
  subst e
  have BK : w.heap[p]? = some (.cells #[vs, .map (some m), vd, .slice A S.acts.length c] 67 (0, 0)) := h.blk
  have c3 := (blk_cell BK 3).trans rfl
  have f3 := blk_frozen BK 3
  have HF := Aside0.mk h
  have HBK := Aside0.mk BK
  clear BK h
  go_enter Try.func47, Try.ntmps47
  go_wp2_with (first | ((with_reducible refine gate_builtin (b := .append) (xs := #[.tmp 12, .tmp 17]) rfl ?_); at_builtin; refine Kd.R_append k55 (w0 := w) 0 rfl (.tmp 12) (.tmp 17) 41 55 (.agg #[.int .i64 0, .int .i64 0, .string ⟨#[]⟩]) 32 rfl Try.underlying41 info55 rfl (by decide) (by omega) (.slice A S.acts.length c) S.acts ⟨kind, id, user⟩ [.int .i64 kind, .int .i64 id, .string user] (fun k => F k ∨ w.heap.size ≤ k) (fun _ => False) rfl rfl ?aP (fun _ hk => hk.elim) ?aF ?aO ?aB ?aS ?aL ?_; (case aP => exact k55_mkM _ _ _ _); (case aF => exact fun k hk => .inr hk); (case aO => exact Kd.R_mono HF.out.acts (fun k hk => .inl hk)); (case aB => exact Below.refl _ _); (case aS => exact Nat.zero_le _); (case aL => omega); intro v1 w1 ho hb hg hat; obtain ⟨A1, c1, rfl⟩ := Kd.R_slice ho; have HO := Aside0.mk ho; have HG := Aside0.mk hg; have HB1 := Aside0.mk (blk_grown HBK.out hg (fun e => typed_ne (HF.out.ta e.symm) HF.out.tp (by decide) rfl)); have f3' := blk_frozen HB1.out 3; have c3' := (blk_cell HB1.out 3).trans rfl; clear f3 c3 ho hb hg hat))
  go_end0
  have h := HF.out
  have hg := HG.out
  have hsz : w.heap.size ≤ w1.heap.size := hg.size
  have hpl := h.lt _ h.own
  have hst : ∀ u, (w1.setCell ⟨p, 3, none⟩ u).heap.size = w1.heap.size := fun u => by simp [World.setCell]
  refine ⟨rfl, After.intro (fun k => (F k ∨ w.heap.size ≤ k) ∧ k < w1.heap.size) _ (h.turned_acts (va := .slice A1 (S.acts.length + 1) c1) (al := S.acts ++ [⟨kind, id, user⟩]) (fun k hk => ⟨.inl hk, Nat.lt_of_lt_of_le (h.lt k hk) hsz⟩) (fun k hk hp ha => ?_) (blk_put HB1.out 3 _ rfl) ?_ (fun k hk => by rw [hst]; exact hk.2)) ⟨?_, fun k hk => hk.1⟩⟩
  · rw [Below.heap_setCell _ _ _ _ hp]
    exact hg.block k (h.lt k hk) (fun e => ha e.symm)
  · have h0 := HO.out
    rw [show (S.acts ++ [(⟨kind, id, user⟩ : S55)]).length = S.acts.length + 1 by simp] at h0
    have h1 := Kd.R_bound h0
    exact Kd.R_mono (Kd.R_far (Kd.R_types h1 HB1.out (by decide)) (fun k hk => hk.2) _) (fun k hk => ⟨hk.1.1, hk.1.2.2.1⟩)
  · exact (But.of_grown hg (fun k hk => h.acts.1 k hk)).setCell h.own _
end Go.Proofs.Ytbbhichndfbooaa.P

/- The contract of Draft. -/
namespace Go.Proofs.Ytbbhichndfbooaa.P
open Go.RowKit Go.Proofs.YtbbhichndfbooaaW.PrintWords Go.Proofs.YtbbhichndfbooaaW.PrintLast Go.Proofs.YtbbhichndfbooaaW.PrintMore Go.Maps Go.ChangeShapes Go.WideShapes Go.WideMaps
set_option linter.unusedVariables false
set_option linter.unusedSimpArgs false
def codeB (a : ByteArray) : Bool := decide (0 < a.size) && (decide (a.size ≤ 12) && allFrom isCodeByte a 0)
theorem code_calls (a : ByteArray) (w : World) : Calls Try.prog 33 #[.string a] w fun e w' => e = .returned (.bool (codeB a)) ∧ Drawn0 w w' := words_Code.calls a _ w rfl
theorem code_is {a : ByteArray} {b : Bool} (h : codeB a = b) (w : World) : Calls Try.prog 33 #[.string a] w fun e w' => e = .returned (.bool b) ∧ Drawn0 w w' := by
  rw [← h]
  exact code_calls a w
theorem FlwP.drewN {w : World} {F : Nat → Prop} {p : Nat} {S : FlowS} {L : Parts} (h : FlwP w F p S L) (n : Nat) : FlwP (w.drewN n) F p S L := h.below (fun _ _ => rfl)
theorem Flw.drewN {w : World} {F : Nat → Prop} {p : Nat} {S : FlowS} (h : Flw w F p S) (n : Nat) : Flw (w.drewN n) F p S := h.keep (fun _ _ => rfl)
theorem Stp.drewN {F G : Nat → Prop} {w w' : World} (h : Stp F G w w') (n : Nat) : Stp F G w (w'.drewN n) := ⟨h.but.drewN n, h.grow⟩
theorem After.drew {F : Nat → Prop} {w : World} {p : Nat} {S : FlowS} (h : Flw w F p S) (n : Nat) : After F w (w.drewN n) p S := ⟨F, h.drewN n, (Stp.refl F w).drewN n⟩
def draftOf (S : FlowS) (user : ByteArray) (vol : Int) : Int × Int × FlowS :=
  if codeB user = false then (0, 7, S) else if vol < 0 then (0, 2, S) else if 10000 ≤ S.docs.length then (0, 9, S)
  else ((S.docs.length : Int) + 1, 0, { S with docs := S.docs ++ [⟨user, vol, 1, []⟩], acts := S.acts ++ [⟨1, (S.docs.length : Int) + 1, user⟩] })
set_option maxHeartbeats 4000000 in
set_option maxRecDepth 100000 in
theorem draft_calls (p : Nat) (S : FlowS) (F : Nat → Prop) (user : ByteArray) (vol : Int) (w : World) (h : Flw w F p S) (hn : S.acts.length ≤ 1000000) :
    Calls Try.prog 28 #[.pointer (some ⟨p, 0, none⟩), .string user, .int .i64 vol] w fun e w' => e = .returned (.tuple #[.int .i64 (draftOf S user vol).1, .int .i64 (draftOf S user vol).2.1]) ∧ After F w w' p (draftOf S user vol).2.2 := by
  have HFl := Aside0.mk h
  unfold draftOf
  cases hc : codeB user
  · rw [if_pos rfl]
    have HC := Aside0.mk hc
    clear hc h
    go_enter Try.func28, Try.ntmps28
    go_wp2_with (first | (go_at_call 33; refine (code_is HC.out _).mono ?_; rintro e w' ⟨rfl, ⟨nd, rfl⟩⟩))
    go_ret2
    exact ⟨rfl, After.drew HFl.out _⟩
  rw [if_neg (by simp)]
  have HC := Aside0.mk hc
  clear hc
  by_cases hv : vol < 0
  · rw [if_pos hv]
    have hd : decide (vol < 0) = true := decide_eq_true hv
    clear h
    go_enter Try.func28, Try.ntmps28
    go_wp2_with (first | (go_at_call 33; refine (code_is HC.out _).mono ?_; rintro e w' ⟨rfl, ⟨nd, rfl⟩⟩))
    go_ret2
    exact ⟨rfl, After.drew HFl.out _⟩
  rw [if_neg hv]
  have hd : decide (vol < 0) = false := decide_eq_false hv
  obtain ⟨⟨vs, m, vd, va, ds, vp⟩, h⟩ := h
  obtain ⟨A, c, e⟩ := Kd.R_slice h.rowd
  have e : vd = .slice A ds.length c := e
  subst e
  have hl : ds.length = S.docs.length := h.lend
  have BK : w.heap[p]? = some (.cells #[vs, .map (some m), .slice A ds.length c, va] 67 (0, 0)) := h.blk
  have HF := Aside0.mk h
  have HBK := Aside0.mk BK
  have HL := Aside0.mk hl
  clear h hl
  by_cases hm : 10000 ≤ S.docs.length
  · rw [if_pos hm]
    have c2 := (fun n => (blk_cell (blk_drewN BK n) 2).trans rfl)
    have hd2 : decide ((10000 : Int) ≤ (ds.length : Int)) = true := decide_eq_true (by rw [HL.out]; omega)
    clear BK
    go_enter Try.func28, Try.ntmps28
    go_wp2_with (first | (go_at_call 33; refine (code_is HC.out _).mono ?_; rintro e w' ⟨rfl, ⟨nd, rfl⟩⟩; have c2' := c2 nd))
    go_ret2
    exact ⟨rfl, After.drew HFl.out _⟩
  · rw [if_neg hm]
    have hd2 : decide ((10000 : Int) ≤ (ds.length : Int)) = false := decide_eq_false (by rw [HL.out]; omega)
    have c2 := (fun n => (blk_cell (blk_drewN BK n) 2).trans rfl)
    clear BK
    go_enter Try.func28, Try.ntmps28
    go_upto_region 9 with (first | (go_at_call 33; refine (code_is HC.out _).mono ?_; rintro e w' ⟨rfl, ⟨nd, rfl⟩⟩; have c2' := c2 nd))
    clear c2 c2' e
    refine with_world (P := fun x => Code.wp _ _ _ _ x) _ ?_
    intro w1 hw1
    have HF1 := Aside0.mk (show FlwP w1 F p S ⟨vs, m, .slice A ds.length c, va, ds, vp⟩ from hw1 ▸ HF.out.drewN nd)
    have HS1 := Aside0.mk (show Stp F F w w1 from hw1 ▸ (Stp.refl F w).drewN nd)
    have BK1 : w1.heap[p]? = some (.cells #[vs, .map (some m), .slice A ds.length c, va] 67 (0, 0)) := HF1.out.blk
    clear hw1 HFl HF HBK
    have c2 := (blk_cell BK1 2).trans rfl
    have HBK := Aside0.mk BK1
    clear BK1
    go_upto_region 10 with (first | ((with_reducible refine gate_dst (N := 33) rfl ?_); refine box_event ?hg (N := 33) ?hd (cs := #[.string user, .int .i64 vol, .int .i64 1, .slice none 0 0]) (t := 75) ?hr ?_; (case hd => rfl); (case hg => rfl); (case hr => first | (go_simp; done) | (go_simp; rfl)); intro b hb w2 hbox hbb; have HF2 := Aside0.mk (HF1.out.below (fun k hk => hbb.block k (HF1.out.lt k hk))); have HN2 := Aside0.mk (show ∀ k, F k → k < b from fun k hk => hb ▸ HF1.out.lt k hk); have HBX := Aside0.mk hbox; have HB12 := Aside0.mk hbb; have HBE := Aside0.mk hb; have c2b := (hbb.cell (World.block_lt_of_cell? w1 _ c2)).trans c2; clear c2 hb hbox hbb) | ((with_reducible refine gate_builtin (b := .append) (xs := #[.tmp 29, .tmp 34]) rfl ?_); at_builtin; refine Kd.R_append kP (w0 := w2) 0 rfl (.tmp 29) (.tmp 34) 65 72 (.pointer none) 8 rfl Try.underlying65 info72 rfl (by decide) (by omega) (.slice A ds.length c) ds b [.pointer (some ⟨b, 0, none⟩)] (fun k => F k ∨ b < k) (fun _ => False) rfl rfl ?aP (fun _ hk => hk.elim) ?aF ?aO ?aB ?aS ?aL ?_; (case aP => exact rfl); (case aF => exact fun k hk => .inr (Nat.lt_of_lt_of_le (blk_lt HBX.out) hk)); (case aO => exact Kd.R_mono HF2.out.rowd (fun k hk => .inl hk)); (case aB => exact Below.refl _ _); (case aS => exact Nat.zero_le _); (case aL => have := HL.out; omega); intro v1 w3 ho hb hg hat; obtain ⟨A1, c1, rfl⟩ := Kd.R_slice ho; have HO := Aside0.mk ho; have HG := Aside0.mk hg; have HB1 := Aside0.mk (blk_grown HF2.out.blk hg (fun e => typed_ne (HF2.out.td e.symm) HF2.out.tp (by decide) rfl)); have HD1 := Aside0.mk (blk_grown HBX.out hg (fun e => by have := HN2.out _ (HF2.out.rowd.1 _ e.symm); omega)); have f2' := blk_frozen HB1.out 2; have c2' := (blk_cell HB1.out 2).trans rfl; clear c2b ho hb hg hat))
    refine with_world (P := fun x => Code.wp _ _ _ _ x) _ ?_
    intro w4 hw4
    have h := HF2.out
    have hg := HG.out
    have hsz : w2.heap.size ≤ w3.heap.size := hg.size
    have hst : w4.heap.size = w3.heap.size := by rw [hw4]; simp [World.setCell]
    have hbl : b < w3.heap.size := blk_lt HD1.out
    have hbp : b ≠ p := by have := HN2.out p h.own; omega
    have h0 := HO.out
    rw [show (ds ++ [b]).length = ds.length + 1 by simp] at h0
    have HF4 := Aside0.mk (show FlwP w4 (fun k => (F k ∨ b ≤ k) ∧ k < w3.heap.size) p { S with docs := S.docs ++ [⟨user, vol, 1, []⟩] } { vs := vs, m := m, vd := .slice A1 (ds.length + 1) c1, va := va, ds := ds ++ [b], vp := vp ++ [.slice none 0 0] } from by
      rw [hw4]
      refine h.turned_docs (fun k hk => ⟨.inl hk, Nat.lt_of_lt_of_le (h.lt k hk) hsz⟩) (fun k hk hp ha => ?_) (blk_put HB1.out 2 _ rfl) ?_ ⟨?_, ⟨.inr (Nat.le_refl _), hbl⟩, Kd.R_nil _ _ _ _ _⟩ (fun x hx => ?_) (fun u _ k _ hk => by cases hk) (fun k hk => by rw [← hw4, hst]; exact hk.2)
      · rw [Below.heap_setCell _ _ _ _ hp]
        exact hg.block k (h.lt k hk) (fun e => ha e.symm)
      · exact Kd.R_mono (Kd.R_far (Kd.R_types (Kd.R_bound h0) HB1.out (by decide)) (fun k hk => hk.2) _) (fun k hk => ⟨hk.1.1.imp (fun h => h) (fun h => Nat.le_of_lt h), hk.1.2.2.1⟩)
      · exact (Below.heap_setCell _ _ _ _ hbp).trans HD1.out
      · have := HN2.out x (h.ds_own hx)
        omega)
    have HS4 := Aside0.mk (show Stp F (fun k => (F k ∨ b ≤ k) ∧ k < w3.heap.size) w w4 from by
      refine HS1.out.trans ⟨?_, fun k hk => hk.1.imp (fun h => h) (fun h => by rw [HBE.out] at h; exact h)⟩
      rw [hw4]
      exact ((But.of_below HB12.out F).trans (But.of_grown hg (fun k hk => h.rowd.1 k hk))).setCell h.own _)
    clear hw4 h hg hsz hst hbl hbp h0 HS1 HF1 HF2 HN2 HBX HB12 HBE HO HG HB1 HD1 HBK
    have BK4 := HF4.out.blk
    have c4 := (blk_cell BK4 2).trans rfl
    clear BK4
    go_wp2_with (first | (go_at_call 47; refine (note_calls p _ _ _ 1 _ user _ HF4.out hn).mono ?_; rintro e w' ⟨rfl, G2, ⟨L2, h2⟩, hs2⟩; obtain ⟨A2, c2, e2⟩ := Kd.R_slice h2.rowd; have BK5 := h2.blk; rw [e2] at BK5; have c5 := (blk_cell BK5 2).trans rfl; have HL2 := Aside0.mk h2.lend; have HF5 := Aside0.mk h2; have HS5 := Aside0.mk hs2; clear BK5 e2 h2 hs2 c4))
    go_ret2
    have hl2 : L2.ds.length = S.docs.length + 1 := by rw [HL2.out]; simp
    refine ⟨by rw [hl2]; push_cast; rfl, ?_⟩
    have HA := After.then HS4.out ⟨G2, ⟨L2, HF5.out⟩, HS5.out⟩
    rw [HL.out] at HA
    exact HA
theorem draft_nil (user : ByteArray) (vol : Int) (w : World) : Calls Try.prog 28 #[.pointer none, .string user, .int .i64 vol] w fun e w' => e = .returned (.tuple #[.int .i64 0, .int .i64 1]) ∧ w' = w := by
  go_enter Try.func28, Try.ntmps28
  go_wp2
  go_ret2
  exact ⟨rfl, rfl⟩
end Go.Proofs.Ytbbhichndfbooaa.P

/- The contracts of permitted, find, settle and move. -/
namespace Go.Proofs.Ytbbhichndfbooaa.P
open Go.RowKit Go.Proofs.YtbbhichndfbooaaW.PrintWords Go.Proofs.YtbbhichndfbooaaW.PrintLast Go.Proofs.YtbbhichndfbooaaW.PrintMore Go.Maps Go.ChangeShapes Go.WideShapes Go.WideMaps
set_option linter.unusedVariables false
set_option linter.unusedSimpArgs false
def permB (S : FlowS) (au : ByteArray) (who : Int) (user : ByteArray) : Bool :=
  if who = 0 then user.toList == au.toList else if who = 1 then hasB S.appr user && !(user.toList == au.toList) else (user.toList == au.toList) || hasB S.appr user
set_option maxHeartbeats 4000000 in
set_option maxRecDepth 100000 in
theorem permitted_calls (p b : Nat) (S : FlowS) (L : Parts) (F : Nat → Prop) (who : Int) (user : ByteArray) (hu : user.size ≤ maxLen) (D : DocS) (v : Value) (w : World) (h : FlwP w F p S L) (hD : DocAt w F b D v) :
    Calls Try.prog 60 #[.pointer (some ⟨p, 0, none⟩), .pointer (some ⟨b, 0, none⟩), .int .i64 who, .string user] w fun e w' => e = .returned (.bool (permB S D.au who user)) ∧ Drawn0 w w' := by
  have c1 := (blk_cell h.blk 1).trans rfl
  have c0 := (blk_cell hD.blk 0).trans rfl
  obtain ⟨es, cl, hm, hlook⟩ := h.who
  have hl1 : ∀ n, (Instr.lookup 64 (.map (some L.m)) (.string user) false).run Try.prog (w.drewN n) = .ok (.bool (hasB S.appr user)) (w.drewN n) := fun n => hlook _ _ hm hu
  have hl0 : (Instr.lookup 64 (.map (some L.m)) (.string user) false).run Try.prog w = .ok (.bool (hasB S.appr user)) w := hlook _ _ hm hu
  unfold permB
  obtain ⟨ap, hap⟩ : ∃ ap, hasB S.appr user = ap := ⟨_, rfl⟩
  obtain ⟨ia, hia⟩ : ∃ ia, (user.toList == D.au.toList) = ia := ⟨_, rfl⟩
  rw [hap] at hl1 hl0 ⊢
  rw [hia]
  clear hap hm hlook
  by_cases h0 : who = 0
  · subst h0
    go_enter Try.func60, Try.ntmps60
    go_wp2
    go_quiet (fail)
    go_wp2
    go_ret
    exact ⟨rfl, by repeat (first | exact Drawn0.refl _ | apply Drawn0.step)⟩
  rw [if_neg h0]
  have d0 : (who == (0 : Int)) = false := beq_eq_false_iff_ne.mpr h0
  by_cases h1 : who = 1
  · subst h1
    clear d0 h0
    cases ap
    · go_enter Try.func60, Try.ntmps60
      go_wp2
      go_quiet (fail)
      go_wp2
      go_ret
      exact ⟨by simp, by repeat (first | exact Drawn0.refl _ | apply Drawn0.step)⟩
    · go_enter Try.func60, Try.ntmps60
      go_wp2
      go_quiet (fail)
      go_wp2
      go_ret
      exact ⟨by simp, by repeat (first | exact Drawn0.refl _ | apply Drawn0.step)⟩
  rw [if_neg h1]
  have d1 : (who == (1 : Int)) = false := beq_eq_false_iff_ne.mpr h1
  cases ia
  · go_enter Try.func60, Try.ntmps60
    go_wp2
    go_quiet (fail)
    go_wp2
    go_ret
    exact ⟨by simp, by repeat (first | exact Drawn0.refl _ | apply Drawn0.step)⟩
  · go_enter Try.func60, Try.ntmps60
    go_wp2
    go_quiet (fail)
    go_wp2
    go_ret
    exact ⟨by simp, by repeat (first | exact Drawn0.refl _ | apply Drawn0.step)⟩
/-- What find answers, by its number. -/
def findOf (S : FlowS) (id : Int) (user : ByteArray) (who : Int) (sts : List Int) : Int :=
  match docAt S id with
  | none => 1
  | some D => if codeB user = false then 7 else if sts.contains D.st = false then 18 else if permB S D.au who user = true then 0 else 19
/-- What find points to, where it answers r. -/
def findPtr (L : Parts) (id r : Int) : Value := ptrOf (if r = 0 then docOf L id else none)
theorem code_size {a : ByteArray} (h : codeB a = true) : a.size ≤ maxLen := by
  unfold codeB at h
  rw [Bool.and_eq_true, Bool.and_eq_true] at h
  have := of_decide_eq_true h.2.1
  unfold maxLen
  omega
set_option maxHeartbeats 4000000 in
set_option maxRecDepth 100000 in
theorem find_calls (p : Nat) (S : FlowS) (L : Parts) (F : Nat → Prop) (id : Int) (hid : (Lit.int .i64 id).wf = true) (user : ByteArray) (who : Int) (A : Option Addr) (c : Nat) (sts : List Int) (hl : sts.length ≤ 1000) (r : Int) (hr : findOf S id user who sts = r) (w : World) (h : FlwP w F p S L) (hs : (Kd.int .i64).C w A sts.length sts) :
    Calls Try.prog 48 #[.pointer (some ⟨p, 0, none⟩), .int .i64 id, .string user, .int .i64 who, .slice A sts.length c] w fun e w' => e = .returned (.tuple #[findPtr L id r, .int .i64 r]) ∧ Drawn0 w w' := by
  unfold findOf at hr
  rcases doc_cases h id with ⟨h1, h2⟩ | ⟨j, b, D, v, h1, h2, -, -, -, -, -, hD⟩
  · rw [h2] at hr
    have hr : (1 : Int) = r := hr
    subst hr
    go_enter Try.func48, Try.ntmps48
    go_wp2_with (first | (go_at_call 36; refine (doc_none hid h h1).mono ?_; rintro e w' ⟨rfl, he_⟩; obtain rfl := he_.symm))
    go_ret2
    exact ⟨rfl, by repeat (first | exact Drawn0.refl _ | apply Drawn0.step)⟩
  rw [h2] at hr
  have hr : (if codeB user = false then (7 : Int) else if sts.contains D.st = false then 18 else if permB S D.au who user = true then 0 else 19) = r := hr
  cases hc : codeB user
  · rw [hc, if_pos rfl] at hr
    subst hr
    have HC := Aside0.mk hc
    clear hc
    go_enter Try.func48, Try.ntmps48
    go_wp2_with (first | (go_at_call 36; refine (doc_some hid h h1).mono ?_; rintro e w' ⟨rfl, he_⟩; obtain rfl := he_.symm) | (go_at_call 33; refine (code_is HC.out _).mono ?_; rintro e w' ⟨rfl, ⟨nd, rfl⟩⟩))
    go_ret2
    exact ⟨rfl, by repeat (first | exact Drawn0.refl _ | apply Drawn0.step)⟩
  rw [hc, if_neg (by simp)] at hr
  have hu := code_size hc
  have HC := Aside0.mk hc
  clear hc
  obtain ⟨pm, hpm⟩ : ∃ pm, permB S D.au who user = pm := ⟨_, rfl⟩
  rw [hpm] at hr
  have HPM := Aside0.mk hpm
  obtain ⟨ct, hct⟩ : ∃ ct, sts.contains D.st = ct := ⟨_, rfl⟩
  rw [hct] at hr
  have HCT := Aside0.mk hct
  have HP := Aside0.mk h
  have HDC := Aside0.mk hD
  have HS := Aside0.mk hs
  have H1 := Aside0.mk h1
  have HR := Aside0.mk hr
  clear hpm hct h2 hs hD hr
  go_enter Try.func48, Try.ntmps48
  go_wp2_with (first | (go_at_call 36; refine (doc_some hid h h1).mono ?_; rintro e w' ⟨rfl, he_⟩; obtain rfl := he_.symm) | (go_at_call 33; refine (code_is HC.out _).mono ?_; rintro e w' ⟨rfl, ⟨nd, rfl⟩⟩; clear h h1))
  go_loopw [14, 25, 26, 27, 28, 29, 30, 31, 32, 33, 34, 35, 36, 37, 38, 39, 40, 42] (fun _ v25 _ _ _ _ _ _ _ _ _ _ _ _ _ _ _ _ wr => ∃ k : Nat, k ≤ sts.length ∧ v25 = .int .i64 k ∧ Drawn0 w wr ∧ Aside0 (∀ x ∈ sts.take k, x ≠ D.st)) (fun _ v25 _ _ _ _ _ _ _ _ _ _ _ _ _ _ _ _ _ => sts.length - (intOf v25).toNat)
  case atStart => exact ⟨0, Nat.zero_le _, rfl, by repeat (first | exact Drawn0.refl _ | apply Drawn0.step), ⟨fun x hx => by simp at hx⟩⟩
  case round =>
    obtain ⟨k, hk, rfl, ⟨n, rfl⟩, HN⟩ := hrel
    by_cases hlt : k < sts.length
    · obtain ⟨ad, e, q0⟩ := Kd.at_int (Kd.C_drewN HS.out n) (k : Int) (by omega) (by omega)
      subst e
      rw [Int.toNat_natCast] at q0
      have d1 : decide ((k : Int) < (sts.length : Int)) = true := decide_eq_true (by omega)
      have d2 : decide (k < sts.length) = true := decide_eq_true hlt
      have p0 : (0 : Int) ≤ (k : Int) := by omega
      have p1 : (k : Int) < (sts.length : Int) := by omega
      have HK := Aside0.mk (show Go.Proofs.YtbbhichndfbooaaW.PrintWords.rd sts (k : Int) = sts[k] by simp [Go.Proofs.YtbbhichndfbooaaW.PrintWords.rd, hlt])
      have c2 := (blk_cell (blk_drewN HDC.out.blk n) 2).trans rfl
      obtain ⟨s, hs⟩ : ∃ s, Go.Proofs.YtbbhichndfbooaaW.PrintWords.rd sts (k : Int) = s := ⟨_, rfl⟩
      rw [hs] at q0 HK
      clear hs
      by_cases he : D.st = s
      · subst he
        have HT := Aside0.mk (show ct = true by rw [← HCT.out, List.contains_iff_mem, HK.out]; exact List.getElem_mem _)
        cases pm
        · go_wp2_with (first | (go_at_call 60; refine (permitted_calls p b S L F who user hu D v _ (HP.out.drewN _) (HDC.out.move (fun _ hk => hk) rfl (fun _ _ => rfl))).mono ?_; rw [HPM.out]; rintro e w' ⟨rfl, ⟨nd2, rfl⟩⟩))
          go_ret2
          have hr := HR.out
          rw [HT.out] at hr
          have hr : (19 : Int) = r := hr
          exact ⟨by rw [← hr]; rfl, by repeat (first | exact Drawn0.refl _ | apply Drawn0.step)⟩
        · go_wp2_with (first | (go_at_call 60; refine (permitted_calls p b S L F who user hu D v _ (HP.out.drewN _) (HDC.out.move (fun _ hk => hk) rfl (fun _ _ => rfl))).mono ?_; rw [HPM.out]; rintro e w' ⟨rfl, ⟨nd2, rfl⟩⟩))
          go_ret2
          have hr := HR.out
          rw [HT.out] at hr
          have hr : (0 : Int) = r := hr
          exact ⟨by rw [← hr]; unfold findPtr; rw [if_pos rfl, H1.out]; rfl, by repeat (first | exact Drawn0.refl _ | apply Drawn0.step)⟩
      · have hb : (D.st != s) = true := bne_iff_ne.mpr he
        have HE := Aside0.mk he
        clear he
        go_wp2
        go_roundw
        case rel =>
          refine ⟨k + 1, by omega, by go_num, by repeat (first | exact Drawn0.refl _ | apply Drawn0.step), ⟨fun x hx => ?_⟩⟩
          rw [List.take_add_one, List.getElem?_eq_getElem hlt, List.mem_append] at hx
          rcases hx with hx | hx
          · exact HN.out x hx
          · simp at hx
            rw [hx, ← HK.out]
            exact fun e => HE.out e.symm
        case measure => simp [intOf]; omega
    · obtain rfl : k = sts.length := by omega
      have d1 : decide ((sts.length : Int) < (sts.length : Int)) = false := decide_eq_false (by omega)
      go_wp2
      go_ret2
      have hf : ct = false := by
        rw [← HCT.out, ← Bool.not_eq_true, List.contains_iff_mem]
        intro hm
        exact HN.out _ (by rw [List.take_length]; exact hm) rfl
      have hr := HR.out
      rw [hf] at hr
      have hr : (18 : Int) = r := hr
      exact ⟨by rw [← hr]; rfl, by repeat (first | exact Drawn0.refl _ | apply Drawn0.step)⟩
/-- The state that settle lays. -/
def settled (n : Nat) (need : Int) : Int := if (n : Int) ≥ need then 3 else 2
set_option maxHeartbeats 4000000 in
set_option maxRecDepth 100000 in
theorem settle_calls (b : Nat) (x y s : Value) (A : Option Addr) (n c : Nat) (need : Int) (w : World) (h : w.heap[b]? = some (.cells #[x, y, s, .slice A n c] 75 (0, 0))) :
    Calls Try.prog 49 #[.pointer (some ⟨b, 0, none⟩), .int .i64 need] w fun e w' => e = .returned (.tuple #[]) ∧ w'.heap[b]? = some (.cells #[x, y, .int .i64 (settled n need), .slice A n c] 75 (0, 0)) ∧ But (fun k => k = b) w w' := by
  have c2 := (blk_cell h 2).trans rfl
  have f2 := blk_frozen h 2
  have H := Aside0.mk h
  clear h
  go_enter Try.func49, Try.ntmps49
  go_upto_region 1 with (fail)
  refine with_world (P := fun x => Code.wp _ _ _ _ x) _ ?_
  intro w1 hw1
  have H1 := Aside0.mk (show w1.heap[b]? = some (.cells #[x, y, .int .i64 2, .slice A n c] 75 (0, 0)) from by rw [hw1]; exact blk_put H.out 2 _ rfl)
  have B1 := Aside0.mk (show But (fun k => k = b) w w1 from by rw [hw1]; exact (But.refl (fun k => k = b) w).setCell (by exact rfl) _)
  clear hw1 c2 f2 H
  have c3 := (blk_cell H1.out 3).trans rfl
  have c2 := (blk_cell H1.out 2).trans rfl
  have f2 := blk_frozen H1.out 2
  by_cases hn : (n : Int) ≥ need
  · have hs := Aside0.mk (show settled n need = 3 from if_pos hn)
    have d : decide (need ≤ (n : Int)) = true := decide_eq_true hn
    clear hn
    go_wp2
    go_end0
    rw [hs.out]
    exact ⟨rfl, blk_put H1.out 2 _ rfl, B1.out.setCell (by exact rfl) _⟩
  · have hs := Aside0.mk (show settled n need = 2 from if_neg hn)
    have d : decide (need ≤ (n : Int)) = false := decide_eq_false hn
    clear hn
    go_wp2
    go_end0
    rw [hs.out]
    exact ⟨rfl, H1.out, B1.out⟩
end Go.Proofs.Ytbbhichndfbooaa.P

/- The contracts of move, Reject, Cancel and Post. -/
namespace Go.Proofs.Ytbbhichndfbooaa.P
open Go.RowKit Go.Proofs.YtbbhichndfbooaaW.PrintWords Go.Proofs.YtbbhichndfbooaaW.PrintLast Go.Proofs.YtbbhichndfbooaaW.PrintMore Go.Maps Go.ChangeShapes Go.WideShapes Go.WideMaps
set_option linter.unusedVariables false
set_option linter.unusedSimpArgs false
/-- The workflow with another document at a number, and an act more. -/
def actedS (S : FlowS) (kind id : Int) (user : ByteArray) (D : DocS) : FlowS := { S with docs := S.docs.set (id - 1).toNat D, acts := S.acts ++ [⟨kind, id, user⟩] }
def docD (S : FlowS) (id : Int) : DocS := (docAt S id).getD ⟨⟨#[]⟩, 0, 0, []⟩
def moveOf (S : FlowS) (kind id : Int) (user : ByteArray) (who st : Int) (sts : List Int) : Int × FlowS :=
  if findOf S id user who sts = 0 then (0, actedS S kind id user { docD S id with st := st }) else (findOf S id user who sts, S)
theorem find_zero {S : FlowS} {id : Int} {user : ByteArray} {who : Int} {sts : List Int} (h : findOf S id user who sts = 0) : ∃ D, docAt S id = some D ∧ codeB user = true ∧ sts.contains D.st = true ∧ permB S D.au who user = true := by
  unfold findOf at h
  cases hd : docAt S id with
  | none =>
    rw [hd] at h
    have h : (1 : Int) = 0 := h
    exact absurd h (by decide)
  | some D =>
    rw [hd] at h
    have h : (if codeB user = false then (7 : Int) else if sts.contains D.st = false then 18 else if permB S D.au who user = true then 0 else 19) = 0 := h
    refine ⟨D, rfl, ?_, ?_, ?_⟩
    · cases hc : codeB user
      · rw [hc, if_pos rfl] at h; exact absurd h (by decide)
      · rfl
    · cases hc : codeB user
      · rw [hc, if_pos rfl] at h; exact absurd h (by decide)
      · rw [hc, if_neg (by decide)] at h
        cases hs : sts.contains D.st
        · rw [hs, if_pos rfl] at h; exact absurd h (by decide)
        · rfl
    · cases hc : codeB user
      · rw [hc, if_pos rfl] at h; exact absurd h (by decide)
      · rw [hc, if_neg (by decide)] at h
        cases hs : sts.contains D.st
        · rw [hs, if_pos rfl] at h; exact absurd h (by decide)
        · rw [hs, if_neg (by decide)] at h
          cases hp : permB S D.au who user
          · rw [hp, if_neg (by decide)] at h; exact absurd h (by decide)
          · rfl
/-- Where find answers 0: the document, its block and its slice. -/
theorem find_there {w : World} {F : Nat → Prop} {p : Nat} {S : FlowS} {L : Parts} (h : FlwP w F p S L) {id : Int} {user : ByteArray} {who : Int} {sts : List Int} (h0 : findOf S id user who sts = 0) :
    ∃ (b : Nat) (v : Value), docOf L id = some b ∧ findPtr L id 0 = .pointer (some ⟨b, 0, none⟩) ∧ L.ds[(id - 1).toNat]? = some b ∧ S.docs[(id - 1).toNat]? = some (docD S id) ∧ L.vp[(id - 1).toNat]? = some v ∧ DocAt w F b (docD S id) v := by
  obtain ⟨D, hd, _⟩ := find_zero h0
  rcases doc_cases h id with ⟨_, h2⟩ | ⟨j, b, E, v, h1, h2, hj, _, a1, a2, a3, hD⟩
  · rw [hd] at h2; cases h2
  · rw [hd] at h2
    obtain rfl := Option.some.inj h2
    have e : docD S id = D := by unfold docD; rw [hd]; rfl
    rw [e, show (id - 1).toNat = j by omega]
    exact ⟨b, v, h1, by unfold findPtr; rw [if_pos rfl, h1]; rfl, a1, a2, a3, hD⟩
set_option maxHeartbeats 4000000 in
set_option maxRecDepth 100000 in
theorem move_calls (p : Nat) (S : FlowS) (F : Nat → Prop) (kind id : Int) (hid : (Lit.int .i64 id).wf = true) (user : ByteArray) (who st : Int) (A : Option Addr) (c : Nat) (sts : List Int) (hl : sts.length ≤ 1000) (w : World) (h : Flw w F p S) (hs : (Kd.int .i64).C w A sts.length sts) (hn : S.acts.length ≤ 1000000) :
    Calls Try.prog 50 #[.pointer (some ⟨p, 0, none⟩), .int .i64 kind, .int .i64 id, .string user, .int .i64 who, .int .i64 st, .slice A sts.length c] w fun e w' => e = .returned (.int .i64 (moveOf S kind id user who st sts).1) ∧ After F w w' p (moveOf S kind id user who st sts).2 := by
  have HFl := Aside0.mk h
  obtain ⟨L, h⟩ := h
  have HP := Aside0.mk h
  have HS := Aside0.mk hs
  unfold moveOf
  obtain ⟨r, hr⟩ : ∃ r, findOf S id user who sts = r := ⟨_, rfl⟩
  by_cases h0 : r = 0
  · subst h0
    rw [if_pos hr]
    obtain ⟨b, v, -, hp, a1, a2, a3, hD⟩ := find_there h hr
    have HA1 := Aside0.mk a1
    have HA2 := Aside0.mk a2
    have HA3 := Aside0.mk a3
    have HD := Aside0.mk hD
    have HPT := Aside0.mk hp
    have HR := Aside0.mk hr
    clear h hs hr hp a1 a2 a3 hD
    go_enter Try.func50, Try.ntmps50
    go_upto_region 5 with (first | (go_at_call 48; refine (find_calls p S L F id hid user who A c sts hl 0 HR.out _ HP.out HS.out).mono ?_; rw [HPT.out]; rintro e w' ⟨rfl, ⟨nd, rfl⟩⟩; have c2 := (blk_cell (blk_drewN HD.out.blk nd) 2).trans rfl; have f2 := blk_frozen (blk_drewN HD.out.blk nd) 2))
    refine with_world (P := fun x => Code.wp _ _ _ _ x) _ ?_
    intro w1 hw1
    have hbF := HD.out.own
    have HF1 := Aside0.mk (show FlwP w1 F p { S with docs := S.docs.set (id - 1).toNat { docD S id with st := st } } { L with vp := L.vp.set (id - 1).toNat v } from by
      rw [hw1]
      refine HP.out.turned_doc HA1.out HA2.out HA3.out (fun _ hk => hk) (fun k hk hb _ => (Below.heap_setCell _ _ _ _ hb).trans rfl) ⟨?_, hbF, ?_⟩ (fun k hk => .inl hk) (fun k hk => ?_)
      · exact blk_put (blk_drewN HD.out.blk nd) 2 _ rfl
      · refine row_over rfl HD.out.row (fun _ hk => hk) (fun k hk => ?_)
        exact (Below.heap_setCell _ _ _ _ (by exact typed_ne (HD.out.tv hk) HD.out.tb (by decide))).trans rfl
      · have := HP.out.lt k hk
        simpa [World.setCell] using this)
    have HS1 := Aside0.mk (show Stp F F w w1 from by
      rw [hw1]
      exact ⟨((But.refl F w).drewN nd).setCell (by exact hbF) _, fun _ hk => .inl hk⟩)
    clear hw1 c2 f2 hbF
    go_wp2_with (first | (go_at_call 47; refine (note_calls p _ _ _ kind id user _ HF1.out hn).mono ?_; rintro e w' ⟨rfl, ha⟩; have HAF := Aside0.mk ha; clear ha))
    go_ret
    exact ⟨rfl, After.then HS1.out HAF.out⟩
  · rw [hr, if_neg h0]
    have hp : findPtr L id r = .pointer none := by unfold findPtr; rw [if_neg h0]; rfl
    have hb : (r != 0) = true := bne_iff_ne.mpr h0
    have HPT := Aside0.mk hp
    have HR := Aside0.mk hr
    clear h hs hr hp h0
    go_enter Try.func50, Try.ntmps50
    go_wp2_with (first | (go_at_call 48; refine (find_calls p S L F id hid user who A c sts hl r HR.out _ HP.out HS.out).mono ?_; rw [HPT.out]; rintro e w' ⟨rfl, ⟨nd, rfl⟩⟩))
    go_ret
    exact ⟨rfl, After.drew HFl.out _⟩
theorem lit_C (W : World) (xs : List Int) (hm : xs.length ≤ 9223372036854775807) : (Kd.int .i64).C (W.alloc (.cells (nums .i64 xs).toArray 3)) (some ⟨W.heap.size, 0, none⟩) xs.length xs :=
  (Kd.R_reads' (Kd.R_of_own (own_lit W 0 3 .i64 xs (Nat.zero_le _) hm) (ok := fun _ => True) (fun _ _ => trivial))).2.2
theorem Flw.alloc {w : World} {F : Nat → Prop} {p : Nat} {S : FlowS} (h : Flw w F p S) (o : Obj) : Flw (w.alloc o) F p S := h.below (below_alloc (Below.refl _ _) o)
theorem Stp.alloc {F G : Nat → Prop} {w w' : World} (h : Stp F G w w') (o : Obj) : Stp F G w (w'.alloc o) := ⟨h.but.alloc o, h.grow⟩
theorem after_alloc {F : Nat → Prop} {w w' : World} {p : Nat} {S : FlowS} {o : Obj} (h : After F (w.alloc o) w' p S) : After F w w' p S := After.then ((Stp.refl F w).alloc o) h
/-- The acts that move and nothing else. -/
def rejectOf (S : FlowS) (id : Int) (user : ByteArray) : Int × FlowS := moveOf S 4 id user 1 4 [2]
def cancelOf (S : FlowS) (id : Int) (user : ByteArray) : Int × FlowS := moveOf S 6 id user 0 6 [1, 4]
def postOf (S : FlowS) (id : Int) (user : ByteArray) : Int × FlowS := moveOf S 7 id user 2 5 [3]
set_option maxHeartbeats 2000000 in
theorem reject_calls (p : Nat) (S : FlowS) (F : Nat → Prop) (id : Int) (hid : (Lit.int .i64 id).wf = true) (user : ByteArray) (w : World) (h : Flw w F p S) (hn : S.acts.length ≤ 1000000) :
    Calls Try.prog 57 #[.pointer (some ⟨p, 0, none⟩), .int .i64 id, .string user] w fun e w' => e = .returned (.int .i64 (rejectOf S id user).1) ∧ After F w w' p (rejectOf S id user).2 := by
  have HF := Aside0.mk h
  clear h
  go_enter Try.func57, Try.ntmps57
  go_wp2_with (first | (go_at_call 50; refine (move_calls p S F 4 id hid user 1 4 (some ⟨w.heap.size, 0, none⟩) 1 [2] (by decide) _ (HF.out.alloc _) (lit_C w [2] (by decide)) hn).mono ?_; rintro e w' ⟨rfl, ha⟩; have HA := Aside0.mk ha; clear ha))
  go_ret
  exact ⟨rfl, after_alloc HA.out⟩
set_option maxHeartbeats 2000000 in
theorem cancel_calls (p : Nat) (S : FlowS) (F : Nat → Prop) (id : Int) (hid : (Lit.int .i64 id).wf = true) (user : ByteArray) (w : World) (h : Flw w F p S) (hn : S.acts.length ≤ 1000000) :
    Calls Try.prog 59 #[.pointer (some ⟨p, 0, none⟩), .int .i64 id, .string user] w fun e w' => e = .returned (.int .i64 (cancelOf S id user).1) ∧ After F w w' p (cancelOf S id user).2 := by
  have HF := Aside0.mk h
  clear h
  go_enter Try.func59, Try.ntmps59
  go_wp2_with (first | (go_at_call 50; refine (move_calls p S F 6 id hid user 0 6 (some ⟨w.heap.size, 0, none⟩) 2 [1, 4] (by decide) _ (HF.out.alloc _) (lit_C w [1, 4] (by decide)) hn).mono ?_; rintro e w' ⟨rfl, ha⟩; have HA := Aside0.mk ha; clear ha))
  go_ret
  exact ⟨rfl, after_alloc HA.out⟩
set_option maxHeartbeats 2000000 in
theorem post_calls (p : Nat) (S : FlowS) (F : Nat → Prop) (id : Int) (hid : (Lit.int .i64 id).wf = true) (user : ByteArray) (w : World) (h : Flw w F p S) (hn : S.acts.length ≤ 1000000) :
    Calls Try.prog 31 #[.pointer (some ⟨p, 0, none⟩), .int .i64 id, .string user] w fun e w' => e = .returned (.int .i64 (postOf S id user).1) ∧ After F w w' p (postOf S id user).2 := by
  have HF := Aside0.mk h
  clear h
  go_enter Try.func31, Try.ntmps31
  go_wp2_with (first | (go_at_call 50; refine (move_calls p S F 7 id hid user 2 5 (some ⟨w.heap.size, 0, none⟩) 1 [3] (by decide) _ (HF.out.alloc _) (lit_C w [3] (by decide)) hn).mono ?_; rintro e w' ⟨rfl, ha⟩; have HA := Aside0.mk ha; clear ha))
  go_ret
  exact ⟨rfl, after_alloc HA.out⟩
end Go.Proofs.Ytbbhichndfbooaa.P

/- The contract of Submit. -/
namespace Go.Proofs.Ytbbhichndfbooaa.P
open Go.RowKit Go.Proofs.YtbbhichndfbooaaW.PrintWords Go.Proofs.YtbbhichndfbooaaW.PrintLast Go.Proofs.YtbbhichndfbooaaW.PrintMore Go.Maps Go.ChangeShapes Go.WideShapes Go.WideMaps
set_option linter.unusedVariables false
set_option linter.unusedSimpArgs false
theorem FlwP.alloc {w : World} {F : Nat → Prop} {p : Nat} {S : FlowS} {L : Parts} (h : FlwP w F p S L) (o : Obj) : FlwP (w.alloc o) F p S L := h.below (fun k hk => Below.heap_alloc w o k (h.lt k hk))
def submitOf (S : FlowS) (id : Int) (user : ByteArray) : Int × FlowS :=
  if findOf S id user 0 [1] = 0 then (if (needOf S.steps (docD S id).vo).2 = true then (0, actedS S 2 id user { docD S id with st := settled (docD S id).ap.length (needOf S.steps (docD S id).vo).1 }) else (3, S)) else (findOf S id user 0 [1], S)
/-- A document's state turns: the workflow with it. -/
theorem turned_state {w w' : World} {F : Nat → Prop} {p b : Nat} {S : FlowS} {L : Parts} {j : Nat} {D : DocS} {v : Value} {st : Int} (h : FlwP w F p S L) (h1 : L.ds[j]? = some b) (h2 : S.docs[j]? = some D) (h3 : L.vp[j]? = some v)
    (hb : w'.heap[b]? = some (.cells #[.string D.au, .int .i64 D.vo, .int .i64 st, v] 75 (0, 0))) (hB : But (fun k => k = b) w w') : FlwP w' F p { S with docs := S.docs.set j { D with st := st } } { L with vp := L.vp.set j v } ∧ Stp F F w w' := by
  have hD := h.docs j b D v h1 h2 h3
  refine ⟨h.turned_doc h1 h2 h3 (fun _ hk => hk) (fun k hk hb _ => hB.block k (h.lt k hk) hb) ⟨hb, hD.own, row_over rfl hD.row (fun _ hk => hk) (fun k hk => hB.block k (h.lt k (hD.row.1 k hk)) (typed_ne (hD.tv hk) hD.tb (by decide)))⟩ (fun k hk => .inl hk) (fun k hk => Nat.lt_of_lt_of_le (h.lt k hk) hB.size), hB.mono (fun k _ e => by rw [e]; exact hD.own), fun _ hk => .inl hk⟩
theorem Stp.below {F G : Nat → Prop} {w w1 w' : World} (h : Stp F G w w1) (hb : Below w1.heap.size w1 w') : Stp F G w w' := ⟨⟨hb.os.trans h.but.os, hb.tape.trans h.but.tape, hb.output.trans h.but.output, Nat.le_trans h.but.size hb.size, fun k hk hx => (hb.block k (Nat.lt_of_lt_of_le hk h.but.size)).trans (h.but.block k hk hx)⟩, h.grow⟩
set_option maxHeartbeats 4000000 in
set_option maxRecDepth 100000 in
theorem submit_calls (p : Nat) (S : FlowS) (F : Nat → Prop) (id : Int) (hid : (Lit.int .i64 id).wf = true) (user : ByteArray) (w : World) (h : Flw w F p S) (hn : S.acts.length ≤ 1000000) :
    Calls Try.prog 29 #[.pointer (some ⟨p, 0, none⟩), .int .i64 id, .string user] w fun e w' => e = .returned (.int .i64 (submitOf S id user).1) ∧ After F w w' p (submitOf S id user).2 := by
  have HFl := Aside0.mk h
  obtain ⟨L, h⟩ := h
  have HP := Aside0.mk h
  unfold submitOf
  obtain ⟨r, hr⟩ : ∃ r, findOf S id user 0 [1] = r := ⟨_, rfl⟩
  by_cases h0 : r = 0
  · subst h0
    rw [if_pos hr]
    obtain ⟨b, v, -, hp, a1, a2, a3, hD⟩ := find_there h hr
    obtain ⟨D, hDe⟩ : ∃ D, docD S id = D := ⟨_, rfl⟩
    rw [hDe] at a2 hD ⊢
    obtain ⟨Av, cv, hv⟩ := Kd.R_slice hD.row
    subst hv
    have HA1 := Aside0.mk a1
    have HA2 := Aside0.mk a2
    have HA3 := Aside0.mk a3
    have HD := Aside0.mk hD
    have HPT := Aside0.mk hp
    have HR := Aside0.mk hr
    clear h hr hp a1 a2 a3 hD hDe
    obtain ⟨⟨nn, ok⟩, hne⟩ : ∃ q, needOf S.steps D.vo = q := ⟨_, rfl⟩
    rw [hne]
    have HN := Aside0.mk hne
    clear hne
    cases ok
    · rw [if_neg (by simp)]
      go_enter Try.func29, Try.ntmps29
      go_wp2_with (first | (go_at_call 48; refine (find_calls p S L F id hid user 0 (some ⟨w.heap.size, 0, none⟩) 1 [1] (by decide) 0 HR.out _ (HP.out.alloc _) (lit_C w [1] (by decide))).mono ?_; rw [HPT.out]; rintro e w1 ⟨rfl, hdr⟩; have HB1 := Aside0.mk (below_then (below_alloc (Below.refl _ w) _) (by simp) hdr.below); have c1 := (blk_cell (blk_below HD.out.blk HB1.out) 1).trans rfl; clear hdr) | (go_at_call 13; refine (need_is HN.out (HFl.out.below HB1.out)).mono ?_; rintro e w2 ⟨rfl, hb⟩; have HB := Aside0.mk (below_then HB1.out HB1.out.size hb); clear hb c1))
      go_ret
      exact ⟨rfl, F, HFl.out.below HB.out, (Stp.refl F w).below HB.out⟩
    · rw [if_pos rfl]
      go_enter Try.func29, Try.ntmps29
      go_wp2_with (first | (go_at_call 48; refine (find_calls p S L F id hid user 0 (some ⟨w.heap.size, 0, none⟩) 1 [1] (by decide) 0 HR.out _ (HP.out.alloc _) (lit_C w [1] (by decide))).mono ?_; rw [HPT.out]; rintro e w1 ⟨rfl, hdr⟩; have HB1 := Aside0.mk (below_then (below_alloc (Below.refl _ w) _) (by simp) hdr.below); have c1 := (blk_cell (blk_below HD.out.blk HB1.out) 1).trans rfl; clear hdr) | (go_at_call 13; refine (need_is HN.out (HFl.out.below HB1.out)).mono ?_; rintro e w2 ⟨rfl, hb⟩; have HB := Aside0.mk (below_then HB1.out HB1.out.size hb); clear hb c1) | (go_at_call 49; refine (settle_calls b _ _ _ Av D.ap.length cv nn _ (blk_below HD.out.blk HB.out)).mono ?_; rintro e w3 ⟨rfl, h3, hb3⟩; have HT := Aside0.mk (turned_state (HP.out.below (fun k hk => HB.out.block k (HP.out.lt k hk))) HA1.out HA2.out HA3.out h3 hb3); clear h3 hb3) | (go_at_call 47; refine (note_calls p _ _ _ 2 id user _ HT.out.1 hn).mono ?_; rintro e w4 ⟨rfl, ha⟩; have HAF := Aside0.mk ha; clear ha))
      go_ret
      exact ⟨rfl, After.then (((Stp.refl F w).below HB.out).trans HT.out.2) HAF.out⟩
  · rw [hr, if_neg h0]
    have hp : findPtr L id r = .pointer none := by unfold findPtr; rw [if_neg h0]; rfl
    have hb : (r != 0) = true := bne_iff_ne.mpr h0
    have HPT := Aside0.mk hp
    have HR := Aside0.mk hr
    clear h hr hp h0
    go_enter Try.func29, Try.ntmps29
    go_wp2_with (first | (go_at_call 48; refine (find_calls p S L F id hid user 0 (some ⟨w.heap.size, 0, none⟩) 1 [1] (by decide) r HR.out _ (HP.out.alloc _) (lit_C w [1] (by decide))).mono ?_; rw [HPT.out]; rintro e w' ⟨rfl, ⟨nd, rfl⟩⟩))
    go_ret
    exact ⟨rfl, after_alloc (After.drew (HFl.out.alloc _) _)⟩
end Go.Proofs.Ytbbhichndfbooaa.P

/- The contract of Approve. -/
namespace Go.Proofs.Ytbbhichndfbooaa.P
open Go.RowKit Go.Proofs.YtbbhichndfbooaaW.PrintWords Go.Proofs.YtbbhichndfbooaaW.PrintLast Go.Proofs.YtbbhichndfbooaaW.PrintMore Go.Maps Go.ChangeShapes Go.WideShapes Go.WideMaps
set_option linter.unusedVariables false
set_option linter.unusedSimpArgs false
def approveOf (S : FlowS) (id : Int) (user : ByteArray) : Int × FlowS :=
  if findOf S id user 1 [2] = 0 then (if hasB (docD S id).ap user = true then (8, S) else (0, actedS S 3 id user { docD S id with st := settled ((docD S id).ap.length + 1) (needOf S.steps (docD S id).vo).1, ap := (docD S id).ap ++ [user] })) else (findOf S id user 1 [2], S)
theorem hasB_false {l : List ByteArray} {s : ByteArray} (h : hasB l s = false) {k : Nat} (hk : k < l.length) : (l[k].toList == s.toList) = false := by
  unfold hasB at h
  rw [List.any_eq_false] at h
  have := h _ (List.getElem_mem hk)
  simpa using this
theorem hasB_true {l : List ByteArray} {s : ByteArray} (h : hasB l s = true) : ∃ k, ∃ hk : k < l.length, (l[k].toList == s.toList) = true := by
  unfold hasB at h
  rw [List.any_eq_true] at h
  obtain ⟨x, hx, h⟩ := h
  obtain ⟨k, hk, rfl⟩ := List.mem_iff_getElem.1 hx
  exact ⟨k, hk, h⟩
set_option maxHeartbeats 8000000 in
set_option maxRecDepth 100000 in
theorem approve_calls (p : Nat) (S : FlowS) (F : Nat → Prop) (id : Int) (hid : (Lit.int .i64 id).wf = true) (user : ByteArray) (w : World) (h : Flw w F p S) (hn : S.acts.length ≤ 1000000) (ha : (docD S id).ap.length ≤ 1000000) :
    Calls Try.prog 30 #[.pointer (some ⟨p, 0, none⟩), .int .i64 id, .string user] w fun e w' => e = .returned (.int .i64 (approveOf S id user).1) ∧ After F w w' p (approveOf S id user).2 := by
  have HFl := Aside0.mk h
  obtain ⟨L, h⟩ := h
  have HP := Aside0.mk h
  obtain ⟨q, hq⟩ : ∃ q, approveOf S id user = q := ⟨_, rfl⟩
  rw [hq]
  have HQ := Aside0.mk hq
  clear hq
  obtain ⟨r, hr⟩ : ∃ r, findOf S id user 1 [2] = r := ⟨_, rfl⟩
  by_cases h0 : r = 0
  · subst h0
    obtain ⟨b, v, -, hp, a1, a2, a3, hD⟩ := find_there h hr
    obtain ⟨D, hDe⟩ : ∃ D, docD S id = D := ⟨_, rfl⟩
    rw [hDe] at a2 hD ha
    have HDE := Aside0.mk hDe
    obtain ⟨Av, cv, hv⟩ := Kd.R_slice hD.row
    subst hv
    have HA1 := Aside0.mk a1
    have HA2 := Aside0.mk a2
    have HA3 := Aside0.mk a3
    have HD := Aside0.mk hD
    have HPT := Aside0.mk hp
    have HR := Aside0.mk hr
    clear h hr hp a1 a2 a3 hD hDe
    obtain ⟨⟨nn, ok⟩, hne⟩ : ∃ q, needOf S.steps D.vo = q := ⟨_, rfl⟩
    have HN := Aside0.mk hne
    clear hne
    obtain ⟨hb, hhb⟩ : ∃ hb, hasB D.ap user = hb := ⟨_, rfl⟩
    have HHB := Aside0.mk hhb
    clear hhb
    go_enter Try.func30, Try.ntmps30
    go_wp2_with (first | (go_at_call 48; refine (find_calls p S L F id hid user 1 (some ⟨w.heap.size, 0, none⟩) 1 [2] (by decide) 0 HR.out _ (HP.out.alloc _) (lit_C w [2] (by decide))).mono ?_; rw [HPT.out]; rintro e w1 ⟨rfl, hdr⟩; have HB1 := Aside0.mk (below_then (below_alloc (Below.refl _ w) _) (by simp) hdr.below); have c3 := (blk_cell (blk_below HD.out.blk HB1.out) 3).trans rfl; clear hdr))
    clear c3
    go_loopw [9, 28, 29, 30, 31, 32, 33, 34, 35] (fun _ v28 _ _ _ _ _ _ _ wr => ∃ k : Nat, k ≤ D.ap.length ∧ v28 = .int .i64 k ∧ Aside0 (Below w.heap.size w wr) ∧ Aside0 (∀ j (hj : j < D.ap.length), j < k → (D.ap[j].toList == user.toList) = false)) (fun _ v28 _ _ _ _ _ _ _ _ => D.ap.length - (intOf v28).toNat)
    case atStart => exact ⟨0, Nat.zero_le _, rfl, HB1, ⟨fun j _ hj => by omega⟩⟩
    case round =>
      obtain ⟨k, hk, rfl, HB, HJ⟩ := hrel
      by_cases hlt : k < D.ap.length
      · obtain ⟨ad, e, q0⟩ := Kd.at_string (Kd.C_below (Kd.R_reads' HD.out.row).2.2 HB.out) (k : Int) (by omega) (by omega)
        subst e
        rw [Int.toNat_natCast] at q0
        have d1 : decide ((k : Int) < (D.ap.length : Int)) = true := decide_eq_true (by omega)
        have d2 : decide (k < D.ap.length) = true := decide_eq_true hlt
        have p0 : (0 : Int) ≤ (k : Int) := by omega
        have p1 : (k : Int) < (D.ap.length : Int) := by omega
        have hsk : rdOf ByteArray.empty D.ap (k : Int) = D.ap[k] := by simp [rdOf, hlt]
        obtain ⟨s, hs⟩ : ∃ s, rdOf ByteArray.empty D.ap (k : Int) = s := ⟨_, rfl⟩
        rw [hs] at q0 hsk
        have HSK := Aside0.mk hsk
        clear hs hsk
        obtain ⟨eb, heb⟩ : ∃ eb, (s.toList == user.toList) = eb := ⟨_, rfl⟩
        cases eb
        · have HEB := Aside0.mk heb
          go_wp2
          go_roundw
          case rel =>
            refine ⟨k + 1, by omega, by go_num, HB, ⟨fun j hj hjk => ?_⟩⟩
            by_cases e : j = k
            · subst e
              rw [← HSK.out]
              exact HEB.out
            · exact HJ.out j hj (by omega)
          case measure => simp [intOf]; omega
        · have HBT := Aside0.mk (show hb = true by
            rw [← HHB.out]
            unfold hasB
            rw [List.any_eq_true]
            exact ⟨D.ap[k], List.getElem_mem hlt, by rw [← HSK.out]; exact heb⟩)
          go_wp2
          go_ret
          have hq : q = (8, S) := by
            rw [← HQ.out]
            unfold approveOf
            rw [if_pos HR.out, HDE.out, HHB.out, HBT.out, if_pos rfl]
          rw [hq]
          exact ⟨rfl, F, HFl.out.below HB.out, (Stp.refl F w).below HB.out⟩
      · obtain rfl : k = D.ap.length := by omega
        have d1 : decide ((D.ap.length : Int) < (D.ap.length : Int)) = false := decide_eq_false (by omega)
        have HBF := Aside0.mk (show hb = false by
          rw [← HHB.out]
          cases hc : hasB D.ap user
          · rfl
          · obtain ⟨x, hx, hxe⟩ := hasB_true hc
            rw [HJ.out x hx hx] at hxe
            cases hxe)
        have HDr := Aside0.mk (blk_below HD.out.blk HB.out)
        have HRr := Aside0.mk (Kd.R_below HD.out.row HB.out)
        have HPr := Aside0.mk (HP.out.below (fun k hk => HB.out.block k (HP.out.lt k hk)))
        have c3 := (blk_cell HDr.out 3).trans rfl
        have hna := hn
        clear hn
        go_upto_region 11 with (first | ((with_reducible refine gate_builtin (b := .append) (xs := #[.tmp 40, .tmp 42]) rfl ?_); at_builtin; refine Kd.R_append Kd.string (w0 := wr) 0 rfl (.tmp 40) (.tmp 42) 23 9 (.string ⟨#[]⟩) 16 rfl Try.underlying23 info9 rfl (by decide) (by omega) (.slice Av D.ap.length cv) D.ap user [.string user] (fun k => F k ∨ wr.heap.size ≤ k) (fun _ => False) rfl rfl ?aP (fun _ hk => hk.elim) ?aF ?aO ?aB ?aS ?aL ?_; (case aP => exact rfl); (case aF => exact fun k hk => .inr hk); (case aO => exact Kd.R_mono HRr.out (fun k hk => .inl hk)); (case aB => exact Below.refl _ _); (case aS => exact Nat.zero_le _); (case aL => omega); intro v1 w2 ho hbl hg hat; obtain ⟨A1, c1, rfl⟩ := Kd.R_slice ho; have HO := Aside0.mk ho; have HG := Aside0.mk hg; have HAT := Aside0.mk hat; have HB2 := Aside0.mk (blk_grown HDr.out hg (fun e => typed_ne (Kd.R_typed HRr.out _ e.symm) ⟨_, HDr.out⟩ (by decide) rfl)); have f3' := blk_frozen HB2.out 3; have c3' := (blk_cell HB2.out 3).trans rfl; clear c3 ho hbl hg hat))
        refine with_world (P := fun x => Code.wp _ _ _ _ x) _ ?_
        intro w3 hw3
        have h := HPr.out
        have hg := HG.out
        have hsz : wr.heap.size ≤ w2.heap.size := hg.size
        have hst : w3.heap.size = w2.heap.size := by rw [hw3]; simp [World.setCell]
        have h0 := HO.out
        rw [show (D.ap ++ [user]).length = D.ap.length + 1 by simp] at h0
        obtain ⟨S3, hS3⟩ : ∃ S3 : FlowS, S3 = { S with docs := S.docs.set (id - 1).toNat { D with ap := D.ap ++ [user] } } := ⟨_, rfl⟩
        obtain ⟨L3, hL3⟩ : ∃ L3 : Parts, L3 = { L with vp := L.vp.set (id - 1).toNat (.slice A1 (D.ap.length + 1) c1) } := ⟨_, rfl⟩
        have hb3 : w3.heap[b]? = some (.cells #[.string D.au, .int .i64 D.vo, .int .i64 D.st, .slice A1 (D.ap.length + 1) c1] 75 (0, 0)) := by rw [hw3]; exact blk_put HB2.out 3 _ rfl
        have HF3 := Aside0.mk (show FlwP w3 (fun k => (F k ∨ wr.heap.size ≤ k) ∧ k < w2.heap.size) p S3 L3 from by
          rw [hS3, hL3]
          refine h.turned_doc HA1.out HA2.out HA3.out (fun k hk => ⟨.inl hk, Nat.lt_of_lt_of_le (h.lt k hk) hsz⟩) (fun k hk hkb hv => ?_) ⟨hb3, ⟨.inl HD.out.own, blk_lt HB2.out⟩, ?_⟩ (fun k hk => ?_) (fun k hk => by rw [hst]; exact hk.2)
          · rw [hw3, Below.heap_setCell _ _ _ _ hkb]
            exact hg.block k (h.lt k hk) (fun e => hv e.symm)
          · rw [hw3]
            exact Kd.R_mono (Kd.R_far (Kd.R_types (Kd.R_bound h0) HB2.out (by decide)) (fun k hk => hk.2) _) (fun k hk => ⟨hk.1.1, hk.1.2.2.1⟩)
          · rcases HAT.out with e | ⟨x, e, hx⟩
            · rw [show (D.ap ++ [user]).length = D.ap.length + 1 by simp] at e
              exact .inl (e.symm.trans hk)
            · refine .inr (fun hF => ?_)
              have := h.lt k hF
              rw [show (Value.slice A1 (D.ap.length + 1) c1).ownBlock = some x by simpa using e] at hk
              cases hk
              omega)
        have HS3 := Aside0.mk (show Stp F (fun k => (F k ∨ wr.heap.size ≤ k) ∧ k < w2.heap.size) w w3 from by
          refine ((Stp.refl F w).below HB.out).trans ⟨?_, fun k hk => hk.1⟩
          rw [hw3]
          exact (But.of_grown hg (fun k hk => HD.out.row.1 k hk)).setCell (by exact HD.out.own) _)
        have hj := get_lt HA2.out
        have HA13 := Aside0.mk (show L3.ds[(id - 1).toNat]? = some b from by rw [hL3]; exact HA1.out)
        have HA23 := Aside0.mk (show S3.docs[(id - 1).toNat]? = some { D with ap := D.ap ++ [user] } from by rw [hS3]; exact List.getElem?_set_self hj)
        have HA33 := Aside0.mk (show L3.vp[(id - 1).toNat]? = some (.slice A1 (D.ap.length + 1) c1) from by rw [hL3]; exact List.getElem?_set_self (get_lt HA3.out))
        have HN3 := Aside0.mk (show needOf S3.steps D.vo = (nn, ok) from by rw [hS3]; exact HN.out)
        have hn3 : S3.acts.length ≤ 1000000 := by rw [hS3]; exact hna
        have HSE := Aside0.mk hS3
        have HBB3 := Aside0.mk hb3
        have c1' := (blk_cell hb3 1).trans rfl
        clear hw3 h hg hsz hst h0 hS3 hL3 hb3 hj HO HG HAT HB2 HPr HRr HDr HA1 HA2 HA3 f3' c3'
        go_wp2_with (first | (go_at_call 13; refine (need_is HN3.out ⟨L3, HF3.out⟩).mono ?_; rintro e w4 ⟨rfl, hbl⟩; have HB4 := Aside0.mk hbl; clear hbl c1') | (go_at_call 49; refine (settle_calls b _ _ _ A1 (D.ap.length + 1) c1 nn _ (blk_below HBB3.out HB4.out)).mono ?_; rintro e w5 ⟨rfl, h5, hb5⟩; have HT := Aside0.mk (turned_state (HF3.out.below (fun k hk => HB4.out.block k (HF3.out.lt k hk))) HA13.out HA23.out HA33.out h5 hb5); clear h5 hb5) | (go_at_call 47; refine (note_calls p _ _ _ 3 id user _ HT.out.1 hn3).mono ?_; rintro e w6 ⟨rfl, ha⟩; have HAF := Aside0.mk ha; clear ha))
        go_ret
        have hq : q = (0, actedS S 3 id user { D with st := settled (D.ap.length + 1) nn, ap := D.ap ++ [user] }) := by
          rw [← HQ.out]
          unfold approveOf
          rw [if_pos HR.out, HDE.out, HHB.out, HBF.out, HN.out, if_neg (by simp)]
        rw [hq]
        refine ⟨rfl, ?_⟩
        have hfin := After.then ((HS3.out.below HB4.out).trans HT.out.2) HAF.out
        rw [HSE.out] at hfin
        have hss : (S.docs.set (id - 1).toNat { D with ap := D.ap ++ [user] }).set (id - 1).toNat { D with ap := D.ap ++ [user], st := settled (D.ap.length + 1) nn } = S.docs.set (id - 1).toNat { D with st := settled (D.ap.length + 1) nn, ap := D.ap ++ [user] }   := by rw [List.set_set]
        unfold actedS
        rw [← hss]
        exact hfin
  · have hq : q = (r, S) := by
      rw [← HQ.out]
      unfold approveOf
      rw [hr, if_neg h0]
    rw [hq]
    clear hq HQ
    have hp : findPtr L id r = .pointer none := by unfold findPtr; rw [if_neg h0]; rfl
    have hb : (r != 0) = true := bne_iff_ne.mpr h0
    have HPT := Aside0.mk hp
    have HR := Aside0.mk hr
    clear h hr hp h0
    go_enter Try.func30, Try.ntmps30
    go_wp2_with (first | (go_at_call 48; refine (find_calls p S L F id hid user 1 (some ⟨w.heap.size, 0, none⟩) 1 [2] (by decide) r HR.out _ (HP.out.alloc _) (lit_C w [2] (by decide))).mono ?_; rw [HPT.out]; rintro e w' ⟨rfl, ⟨nd, rfl⟩⟩))
    go_ret
    exact ⟨rfl, after_alloc (After.drew (HFl.out.alloc _) _)⟩
end Go.Proofs.Ytbbhichndfbooaa.P

/- The contract of Redraft. -/
namespace Go.Proofs.Ytbbhichndfbooaa.P
open Go.RowKit Go.Proofs.YtbbhichndfbooaaW.PrintWords Go.Proofs.YtbbhichndfbooaaW.PrintLast Go.Proofs.YtbbhichndfbooaaW.PrintMore Go.Maps Go.ChangeShapes Go.WideShapes Go.WideMaps
set_option linter.unusedVariables false
set_option linter.unusedSimpArgs false
theorem setCells_block (b t : Nat) : ∀ (vs : List Value) (o : Nat) (w : World) (cur : Array Value), w.heap[b]? = some (.cells cur t (0, 0)) → ∃ cur', (w.setCells b o vs).heap[b]? = some (.cells cur' t (0, 0)) ∧ cur'.size = cur.size
  | [], o, w, cur, h => ⟨cur, h, rfl⟩
  | v :: r, o, w, cur, h => by
    obtain ⟨cur', h1, h2⟩ := setCells_block b t r (o + 1) (w.setCell ⟨b, o, none⟩ v) _ (blk_set h o v)
    exact ⟨cur', h1, by rw [h2]; simp⟩
theorem setCells_but (b : Nat) : ∀ (vs : List Value) (o : Nat) (w : World), But (fun k => k = b) w (w.setCells b o vs)
  | [], o, w => But.refl _ _
  | v :: r, o, w => ((But.refl (fun k => k = b) w).setCell (p := ⟨b, o, none⟩) rfl v).trans (setCells_but b r (o + 1) _)
theorem wpList_clear_run {P : Program} {w : World} {ops : Array Oper} {rest : List Oper} {o : Oper} {a : Act} {Q : Exit → Act → World → Prop} (hg : o.guard = none) (m : Operand) (t : TypeId)
    (hop : o.op = Op.call { callee := Callee.builtin Builtin.clear, args := #[m], argTypes := #[t] }) (v : Value) (hm : a.eval m = v) (w' : World) (hrun : (Builtin.clear_ #[t] o.type #[v]).run P w = .ok (.tuple #[]) w')
    (hK : wpList P ops Q rest (a.put o.dst (.tuple #[])) w') : wpList P ops Q (o :: rest) a w := by
  refine wpList_plain hg fun K' hK' => ?_
  unfold Oper.wp
  simp [execOp, hop, resolve, invoke, builtin, hm, hrun, Result.andThen]
  exact hK' _ _ hK
/-- A row of strings, cleared and cut to nothing. -/
theorem row_cleared {w : World} {F : Nat → Prop} {A : Option Addr} {n c : Nat} {xs : List ByteArray} (h : Kd.string.R 9 w 0 F (.slice A n c) xs) (hn : n = xs.length) :
    ∃ w', (∀ ty, (Builtin.clear_ #[23] ty #[.slice A n c]).run Try.prog w = .ok (.tuple #[]) w') ∧ Kd.string.R 9 w' 0 F (.slice A 0 c) [] ∧ But (fun k => (Value.slice A n c).ownBlock = some k) w w' := by
  obtain ⟨h0, inner, hown, hr⟩ := h
  rcases hown.2 with ⟨hnil, hz⟩ | ⟨g, cap, cur, hv, hb, hh, h1, h2, h3, h4⟩
  · cases hnil
    refine ⟨w, fun ty => by simp [Builtin.clear_, run_underlying Try.underlying23], Kd.R_nil _ _ _ _ _, But.refl _ _⟩
  · cases hv
    have hrow : ∀ (w' : World) (cur' : Array Value), w'.heap[g]? = some (.cells cur' 9 (0, 0)) → cur'.size = cur.size → Kd.string.R 9 w' 0 F (.slice (some ⟨g, 0, none⟩) 0 c) [] := fun w' cur' hc hs =>
      ⟨fun k hk => h0 k hk, [], ⟨by simp, .inr ⟨g, c, cur', rfl, Nat.zero_le _, hc, Nat.zero_le _, h2, by rw [hs]; exact h3, by simp⟩⟩, Reps.none _ _⟩
    by_cases hn0 : xs.length = 0
    · rw [hn0]
      exact ⟨w, fun ty => by simp [Builtin.clear_, run_underlying Try.underlying23], hrow w cur hh rfl, But.refl _ _⟩
    · have hrun := fun ty => Lib.run_clear_slice (P := Try.prog) w 23 9 ty (.string ⟨#[]⟩) Try.underlying23 (fun W => by kernel_rfl) rfl rfl g 0 xs.length c (by omega)
        (fun j hj => by rw [Nat.zero_add, blk_cell hh j]; simp; have : Kd.string.sz = 1 := rfl; rw [this] at h3; omega) (fun j hj => blk_frozen hh _)
      obtain ⟨cur', hc', hs'⟩ := setCells_block g 9 (List.replicate xs.length (.string ⟨#[]⟩)) 0 w cur hh
      exact ⟨_, hrun, hrow _ cur' hc' hs', (setCells_but g _ 0 w).mono (fun k _ e => by rw [e]; rfl)⟩
theorem docAt_acted {S : FlowS} {kind id : Int} {user : ByteArray} {D E : DocS} (h : docAt S id = some D) : docAt (actedS S kind id user E) id = some E := by
  unfold docAt at h ⊢
  by_cases h1 : id < 1
  · rw [if_pos h1] at h; cases h
  · rw [if_neg h1] at h ⊢
    by_cases h2 : id > S.docs.length
    · rw [if_pos h2] at h; cases h
    · have h3 : ¬ id > (actedS S kind id user E).docs.length := by
        show ¬ id > (S.docs.set (id - 1).toNat E).length
        rw [List.length_set]
        exact h2
      rw [if_neg h3]
      exact List.getElem?_set_self (by omega)
def redraftOf (S : FlowS) (id : Int) (user : ByteArray) : Int × FlowS :=
  if findOf S id user 0 [4] = 0 then (0, actedS S 5 id user { docD S id with st := 1, ap := [] }) else (findOf S id user 0 [4], S)
set_option maxHeartbeats 4000000 in
set_option maxRecDepth 100000 in
theorem redraft_calls (p : Nat) (S : FlowS) (F : Nat → Prop) (id : Int) (hid : (Lit.int .i64 id).wf = true) (user : ByteArray) (w : World) (h : Flw w F p S) (hn : S.acts.length ≤ 1000000) :
    Calls Try.prog 58 #[.pointer (some ⟨p, 0, none⟩), .int .i64 id, .string user] w fun e w' => e = .returned (.int .i64 (redraftOf S id user).1) ∧ After F w w' p (redraftOf S id user).2 := by
  have HF := Aside0.mk h
  have hmv : ∀ w', Flw w' F p S → (Kd.int .i64).C w' (some ⟨w.heap.size, 0, none⟩) 1 [4] → Calls Try.prog 50 #[.pointer (some ⟨p, 0, none⟩), .int .i64 5, .int .i64 id, .string user, .int .i64 0, .int .i64 1, .slice (some ⟨w.heap.size, 0, none⟩) 1 1] w' fun e w'' => e = .returned (.int .i64 (moveOf S 5 id user 0 1 [4]).1) ∧ After F w' w'' p (moveOf S 5 id user 0 1 [4]).2 :=
    fun w' hw hc => move_calls p S F 5 id hid user 0 1 (some ⟨w.heap.size, 0, none⟩) 1 [4] (by decide) w' hw hc hn
  unfold moveOf at hmv
  unfold redraftOf
  by_cases h0 : findOf S id user 0 [4] = 0
  · rw [if_pos h0] at hmv ⊢
    obtain ⟨D, hd, -⟩ := find_zero h0
    have hde : docD S id = D := by unfold docD; rw [hd]; rfl
    rw [hde] at hmv ⊢
    have hda : docAt (actedS S 5 id user { D with st := 1 }) id = some { D with st := 1 } := docAt_acted hd
    obtain ⟨S1, hS1⟩ : ∃ S1, actedS S 5 id user { D with st := 1 } = S1 := ⟨_, rfl⟩
    rw [hS1] at hmv hda
    have HS1 := Aside0.mk hS1
    have HDA := Aside0.mk hda
    have HMV := Aside0.mk hmv
    clear h h0 hd hde hda hS1 hmv
    go_enter Try.func58, Try.ntmps58
    go_upto_region 4 with (first | (go_at_call 50; refine (HMV.out _ (HF.out.alloc _) (lit_C w [4] (by decide))).mono ?_; rintro e w1 ⟨rfl, ha⟩; have HA := Aside0.mk ha; clear ha))
    obtain ⟨G, ⟨L, h1⟩, hs1⟩ := HA.out
    have HST := Aside0.mk (((Stp.refl F w).alloc _).trans hs1)
    clear hs1 HA
    rcases doc_cases h1 id with ⟨_, h2⟩ | ⟨j, b, E, v, g1, g2, gj, -, a1, a2, a3, hD⟩
    · rw [HDA.out] at h2; cases h2
    rw [HDA.out] at g2
    obtain rfl := Option.some.inj g2
    obtain ⟨Av, cv, hv⟩ := Kd.R_slice hD.row
    have hv : v = .slice Av D.ap.length cv := hv
    subst hv
    obtain ⟨w2, hcl, hrow2, hbut2⟩ := row_cleared hD.row rfl
    have HG1 := Aside0.mk g1
    have HJ := Aside0.mk gj
    have HA1 := Aside0.mk a1
    have HA2 := Aside0.mk a2
    have HA3 := Aside0.mk a3
    have HD := Aside0.mk hD
    have HCL := Aside0.mk hcl
    have HR2 := Aside0.mk hrow2
    have HB2 := Aside0.mk hbut2
    have HP1 := Aside0.mk h1
    have hb2 : w2.heap[b]? = some (.cells #[.string D.au, .int .i64 D.vo, .int .i64 1, .slice Av D.ap.length cv] 75 (0, 0)) := hbut2.obj hD.blk (fun e => typed_ne (hD.tv e) hD.tb (by decide) rfl)
    have c3 := (blk_cell hD.blk 3).trans rfl
    have c3' := (blk_cell hb2 3).trans rfl
    have f3' := blk_frozen hb2 3
    have HBB := Aside0.mk hb2
    clear g1 gj a1 a2 a3 hD hcl hrow2 hbut2 h1 g2 hb2
    go_wp2_with (first | (go_at_call 36; refine (doc_some hid HP1.out HG1.out).mono ?_; rintro e w' ⟨rfl, he_⟩; obtain rfl := he_.symm) | ((with_reducible refine gate_builtin (b := .clear) (xs := #[.tmp 23]) rfl ?_); refine wpList_clear_run rfl (.tmp 23) 23 rfl (.slice Av D.ap.length cv) rfl w2 (HCL.out _) ?_))
    go_ret
    have hj : (id - 1).toNat = j := by have := HJ.out; omega
    have hbG := HD.out.own
    have hst : (w2.setCell ⟨b, 3, none⟩ (.slice Av 0 cv)).heap.size = w2.heap.size := by simp [World.setCell]
    have hF3 : FlwP (w2.setCell ⟨b, 3, none⟩ (.slice Av 0 cv)) G p { S1 with docs := S1.docs.set j { D with st := 1, ap := [] } } { L with vp := L.vp.set j (.slice Av 0 cv) } := by
      refine HP1.out.turned_doc HA1.out HA2.out HA3.out (fun _ hk => hk) (fun k hk hkb hv => ?_) ⟨blk_put HBB.out 3 _ rfl, hbG, ?_⟩ (fun k hk => .inl (by cases Av <;> exact hk)) (fun k hk => ?_)
      · rw [Below.heap_setCell _ _ _ _ hkb]
        exact HB2.out.block k (HP1.out.lt k hk) hv
      · exact Kd.R_mono (Kd.R_far (Kd.R_types HR2.out HBB.out (by decide)) (fun k hk => hk.2) _) (fun k hk => hk.1)
      · rw [hst]
        exact Nat.lt_of_lt_of_le (HP1.out.lt k hk) HB2.out.size
    have hB3 : But G w1 (w2.setCell ⟨b, 3, none⟩ (.slice Av 0 cv)) := (HB2.out.mono (fun k _ e => HD.out.row.1 k e)).setCell (by exact hbG) _
    refine ⟨rfl, ?_⟩
    have hfin := After.then HST.out ⟨G, ⟨_, hF3⟩, ⟨hB3, fun _ hk => .inl hk⟩⟩
    rw [← HS1.out, ← hj] at hfin
    have hss : (S.docs.set (id - 1).toNat { D with st := 1 }).set (id - 1).toNat { D with st := 1, ap := [] } = S.docs.set (id - 1).toNat { D with st := 1, ap := [] } := by rw [List.set_set]
    unfold actedS at hfin ⊢
    rw [← hss]
    exact hfin
  · rw [if_neg h0] at hmv ⊢
    obtain ⟨r, hr⟩ : ∃ r, findOf S id user 0 [4] = r := ⟨_, rfl⟩
    rw [hr] at hmv h0 ⊢
    have hb : (r != 0) = true := bne_iff_ne.mpr h0
    have HMV := Aside0.mk hmv
    clear h h0 hr hmv
    go_enter Try.func58, Try.ntmps58
    go_wp2_with (first | (go_at_call 50; refine (HMV.out _ (HF.out.alloc _) (lit_C w [4] (by decide))).mono ?_; rintro e w1 ⟨rfl, ha⟩; have HA := Aside0.mk ha; clear ha))
    go_ret
    exact ⟨rfl, after_alloc HA.out⟩
end Go.Proofs.Ytbbhichndfbooaa.P

/- The contracts of Approvals and Acts: copies. -/
namespace Go.Proofs.Ytbbhichndfbooaa.P
open Go.RowKit Go.Proofs.YtbbhichndfbooaaW.PrintWords Go.Proofs.YtbbhichndfbooaaW.PrintLast Go.Proofs.YtbbhichndfbooaaW.PrintMore Go.Maps Go.ChangeShapes Go.WideShapes Go.WideMaps
set_option linter.unusedVariables false
set_option linter.unusedSimpArgs false
/-- What a call returns: a slice of its own. -/
def Fresh {α : Type} (d : Kd α) (e : Nat) (w w' : World) (x : Ending) (xs : List α) : Prop := ∃ v, x = .returned v ∧ d.R e w' w.heap.size (fun k => w.heap.size ≤ k) v xs ∧ Below w.heap.size w w'
theorem Fresh.nil {α : Type} (d : Kd α) (e : Nat) (w : World) : Fresh d e w w (.returned (.slice none 0 0)) [] := ⟨_, rfl, Kd.R_nil _ _ _ _ _, Below.refl _ _⟩
set_option maxHeartbeats 4000000 in
set_option maxRecDepth 100000 in
theorem approvals_calls (p : Nat) (S : FlowS) (F : Nat → Prop) (id : Int) (hid : (Lit.int .i64 id).wf = true) (w : World) (h : Flw w F p S) (hn : (apOf S id).length ≤ 1000000) :
    Calls Try.prog 23 #[.pointer (some ⟨p, 0, none⟩), .int .i64 id] w fun e w' => Fresh Kd.string 9 w w' e (apOf S id) := by
  obtain ⟨L, h⟩ := h
  unfold apOf at hn ⊢
  rcases doc_cases h id with ⟨h1, h2⟩ | ⟨j, b, D, v, h1, h2, -, -, -, -, -, hD⟩
  · rw [h2]
    clear hn
    go_enter Try.func23, Try.ntmps23
    go_wp2_with (first | (go_at_call 36; refine (doc_none hid h h1).mono ?_; rintro e w' ⟨rfl, he_⟩; obtain rfl := he_.symm))
    go_ret
    exact Fresh.nil _ _ _
  · rw [h2] at hn ⊢
    have hn : D.ap.length ≤ 1000000 := hn
    obtain ⟨Av, cv, hv⟩ := Kd.R_slice hD.row
    subst hv
    have c3 := (blk_cell hD.blk 3).trans rfl
    have HC := Aside0.mk (Kd.R_reads' hD.row).2.2
    clear h2 hD
    go_enter Try.func23, Try.ntmps23
    go_wp2_with (first | (go_at_call 36; refine (doc_some hid h h1).mono ?_; rintro e w' ⟨rfl, he_⟩; obtain rfl := he_.symm) | ((with_reducible refine gate_builtin (b := .append) (xs := #[.tmp 11, .tmp 15]) rfl ?_); at_builtin; refine Kd.R_append_rows Kd.string (w0 := w) (Rr := Kd.string.K w) w.heap.size rfl (.tmp 11) (.tmp 15) 23 9 (.string ⟨#[]⟩) 16 rfl Try.underlying23 info9 rfl (by decide) (by omega) (.slice none 0 0) [] D.ap Av D.ap.length cv (fun k => w.heap.size ≤ k) (fun _ => False) rfl rfl ?aO ?aR ?aK (fun _ hk => hk.elim) ?aF ?aB ?aS ?aL ?_; (case aO => exact Kd.R_nil _ _ _ _ _); (case aR => exact HC.out); (case aK => exact fun x cs hx => hx); (case aF => exact fun k hk => hk); (case aB => exact Below.refl _ _); (case aS => exact Nat.le_refl _); (case aL => simp; omega); intro v1 w1 ho hb hg hat; obtain ⟨A1, c1, rfl⟩ := Kd.R_slice ho; have HO := Aside0.mk ho; have HB := Aside0.mk hb; clear ho hb hg hat))
    go_ret
    exact ⟨_, rfl, HO.out, HB.out⟩
theorem approvals_nil (id : Int) (w : World) : Calls Try.prog 23 #[.pointer none, .int .i64 id] w fun e w' => e = .returned (.slice none 0 0) ∧ w' = w := by
  go_enter Try.func23, Try.ntmps23
  go_wp2_with (first | (go_at_call 36; refine (doc_nil id _).mono ?_; rintro e w' ⟨rfl, rfl⟩))
  go_ret
  exact ⟨rfl, rfl⟩
set_option maxHeartbeats 4000000 in
set_option maxRecDepth 100000 in
theorem acts_calls (p : Nat) (S : FlowS) (F : Nat → Prop) (w : World) (h : Flw w F p S) (hn : S.acts.length ≤ 1000000) :
    Calls Try.prog 16 #[.pointer (some ⟨p, 0, none⟩)] w fun e w' => Fresh k55 55 w w' e S.acts := by
  obtain ⟨L, h⟩ := h
  obtain ⟨Av, cv, hv⟩ := Kd.R_slice h.acts
  have BK := h.blk
  have hR := h.acts
  rw [hv] at BK hR
  have c3 := (blk_cell BK 3).trans rfl
  have HC := Aside0.mk (Kd.R_reads' hR).2.2
  clear h hR BK hv
  go_enter Try.func16, Try.ntmps16
  go_wp2_with (first | ((with_reducible refine gate_builtin (b := .append) (xs := #[.tmp 5, .tmp 9]) rfl ?_); at_builtin; refine Kd.R_append_rows k55 (w0 := w) (Rr := k55.K w) w.heap.size rfl (.tmp 5) (.tmp 9) 41 55 (.agg #[.int .i64 0, .int .i64 0, .string ⟨#[]⟩]) 32 rfl Try.underlying41 info55 rfl (by decide) (by omega) (.slice none 0 0) [] S.acts Av S.acts.length cv (fun k => w.heap.size ≤ k) (fun _ => False) rfl rfl ?aO ?aR ?aK (fun _ hk => hk.elim) ?aF ?aB ?aS ?aL ?_; (case aO => exact Kd.R_nil _ _ _ _ _); (case aR => exact HC.out); (case aK => exact fun x cs hx => by obtain rfl := k55_open hx; exact k55_mkM _ _ _ _); (case aF => exact fun k hk => hk); (case aB => exact Below.refl _ _); (case aS => exact Nat.le_refl _); (case aL => simp; omega); intro v1 w1 ho hb hg hat; obtain ⟨A1, c1, rfl⟩ := Kd.R_slice ho; have HO := Aside0.mk ho; have HB := Aside0.mk hb; clear ho hb hg hat))
  go_ret
  exact ⟨_, rfl, HO.out, HB.out⟩
theorem acts_nil (w : World) : Calls Try.prog 16 #[.pointer none] w fun e w' => e = .returned (.slice none 0 0) ∧ w' = w := by
  go_enter Try.func16, Try.ntmps16
  go_wp2
  go_ret
  exact ⟨rfl, rfl⟩
end Go.Proofs.Ytbbhichndfbooaa.P
