/- The contracts of the workflow's methods that only read: Need, doc, State, Author. -/
import Derived.Test.YtbbhichndfbooaaHandF
namespace Go.Proofs.Ytbbhichndfbooaa.P
open Go.RowKit Go.Proofs.YtbbhichndfbooaaW.PrintWords Go.Proofs.YtbbhichndfbooaaW.PrintLast Go.Proofs.YtbbhichndfbooaaW.PrintMore Go.Maps Go.ChangeShapes Go.WideShapes Go.WideMaps
set_option linter.unusedVariables false
set_option linter.unusedSimpArgs false
def needAt (steps : List S60) (v : Int) (k : Nat) : Int × Bool := match (steps.drop k).find? (fun s => decide (s.f0 ≥ v)) with | some s => (s.f1, true) | none => (0, false)
def needOf (steps : List S60) (v : Int) : Int × Bool := needAt steps v 0
theorem needAt_succ (steps : List S60) (v : Int) {k : Nat} (h : k < steps.length) : needAt steps v k = if (rd_T60 steps (k : Int)).f0 ≥ v then ((rd_T60 steps (k : Int)).f1, true) else needAt steps v (k + 1) := by
  have e : steps.drop k = rd_T60 steps (k : Int) :: steps.drop (k + 1) := by
    rw [show rd_T60 steps (k : Int) = steps[k] by simp [rd_T60, h], List.drop_eq_getElem_cons h]
  unfold needAt
  rw [e, List.find?_cons]
  by_cases c : (rd_T60 steps (k : Int)).f0 ≥ v
  · rw [decide_eq_true c, if_pos c]
  · rw [decide_eq_false c, if_neg c]
theorem needAt_end (steps : List S60) (v : Int) : needAt steps v steps.length = (0, false) := by
  unfold needAt
  rw [List.drop_length]
  rfl
theorem stepsLen {w : World} {F : Nat → Prop} {v : Value} {xs : List S60} (h : k60.R 60 w 0 F v xs) : xs.length ≤ maxLen := by
  obtain ⟨_, inner, h1, _⟩ := h
  rcases h1.2 with ⟨_, h2⟩ | ⟨g, cap, cur, _, _, _, h3, h4, _⟩
  · simp [h2]
  · omega
set_option maxHeartbeats 4000000 in
set_option maxRecDepth 100000 in
theorem need_calls (p : Nat) (S : FlowS) (F : Nat → Prop) (v : Int) (w : World) (h : Flw w F p S) :
    Calls Try.prog 13 #[.pointer (some ⟨p, 0, none⟩), .int .i64 v] w fun e w' => e = .returned (.tuple #[.int .i64 (needOf S.steps v).1, .bool (needOf S.steps v).2]) ∧ Below w.heap.size w w' := by
  obtain ⟨L, h⟩ := h
  obtain ⟨A, c, hv⟩ := Kd.R_slice h.steps
  have hlen := stepsLen h.steps
  unfold maxLen at hlen
  have BK := h.blk
  have hR := h.steps
  have hfl := h.lt _ h.own
  rw [hv] at BK hR
  have c0 := (blk_cell BK 0).trans rfl
  have hC := (Kd.R_reads' hR).2.2
  have HR := Aside0.mk hC
  clear hC hR
  go_enter Try.func13, Try.ntmps13
  go_wp2
  clear c0
  go_loopw [7, 15, 16, 17, 18, 19, 20, 21, 22, 23, 24, 25] (fun _ v15 _ _ _ _ _ _ _ _ _ _ wr => ∃ k : Nat, k ≤ S.steps.length ∧ v15 = .int .i64 k ∧ Aside0 (Below w.heap.size w wr) ∧ Aside0 (needOf S.steps v = needAt S.steps v k)) (fun _ v15 _ _ _ _ _ _ _ _ _ _ _ => S.steps.length - (intOf v15).toNat)
  case atStart => exact ⟨0, Nat.zero_le _, rfl, ⟨Below.refl _ _⟩, ⟨rfl⟩⟩
  case round =>
    obtain ⟨k, hk, rfl, HB, HN⟩ := hrel
    by_cases hlt : k < S.steps.length
    · obtain ⟨ad, e, q0, q1⟩ := at_T60 (Kd.C_below HR.out HB.out) (k : Int) (by omega) (by omega)
      subst e
      rw [Int.toNat_natCast] at q0 q1
      have d1 : decide ((k : Int) < (S.steps.length : Int)) = true := decide_eq_true (by omega)
      have d2 : decide (k < S.steps.length) = true := decide_eq_true hlt
      have p0 : (0 : Int) ≤ (k : Int) := by omega
      have p1 : (k : Int) < (S.steps.length : Int) := by omega
      go_upto_region 6 with (fail)
      refine with_world (P := fun x => Code.wp _ _ _ _ x) _ ?_
      intro w3 hw3
      have B3 : Below w.heap.size w w3 := by rw [hw3]; repeat (first | exact HB.out | apply below_alloc | apply pw_below_drewN | apply below_drew)
      have BS3 : w3.heap[wr.heap.size]? = some (.cells #[.int .i64 (rd_T60 S.steps (k : Int)).f0, .int .i64 (rd_T60 S.steps (k : Int)).f1] 60 (0, 0)) := by rw [hw3]; exact blk_new wr _
      obtain ⟨sn, hsn⟩ : ∃ sn, wr.heap.size = sn := ⟨_, rfl⟩
      rw [hsn] at BS3 ⊢
      clear hw3 q0 q1
      have f0 := (blk_cell BS3 0).trans rfl
      have f1 := (blk_cell BS3 1).trans rfl
      have HB3 := Aside0.mk B3
      clear B3 BS3
      have HS := Aside0.mk (needAt_succ S.steps v hlt)
      obtain ⟨st, hst⟩ : ∃ st, rd_T60 S.steps (k : Int) = st := ⟨_, rfl⟩
      rw [hst] at f0 f1 HS
      clear hst
      by_cases hc : st.f0 ≥ v
      · have hd : decide (v ≤ st.f0) = true := decide_eq_true hc
        go_wp2
        go_ret2
        rw [HN.out, HS.out, if_pos hc]
        exact ⟨rfl, HB3.out⟩
      · have hd : decide (v ≤ st.f0) = false := decide_eq_false hc
        go_wp2
        go_roundw
        case rel => exact ⟨k + 1, by omega, by go_num, HB3, ⟨by rw [HN.out, HS.out, if_neg hc]⟩⟩
        case measure => simp [intOf]; omega
    · obtain rfl : k = S.steps.length := by omega
      have d1 : decide ((S.steps.length : Int) < (S.steps.length : Int)) = false := decide_eq_false (by omega)
      go_wp2
      go_ret2
      rw [HN.out, needAt_end]
      exact ⟨rfl, HB.out⟩
theorem need_is {p : Nat} {S : FlowS} {F : Nat → Prop} {v nn : Int} {ok : Bool} (hn : needOf S.steps v = (nn, ok)) {w : World} (h : Flw w F p S) :
    Calls Try.prog 13 #[.pointer (some ⟨p, 0, none⟩), .int .i64 v] w fun e w' => e = .returned (.tuple #[.int .i64 nn, .bool ok]) ∧ Below w.heap.size w w' := by
  have := need_calls p S F v w h
  rw [hn] at this
  exact this
theorem need_nil (v : Int) (w : World) : Calls Try.prog 13 #[.pointer none, .int .i64 v] w fun e w' => e = .returned (.tuple #[.int .i64 0, .bool false]) ∧ w' = w := by
  go_enter Try.func13, Try.ntmps13
  go_wp2
  go_ret2
  exact ⟨rfl, rfl⟩
/-- The block of a document, by its number. -/
def docOf (L : Parts) (id : Int) : Option Nat := if id < 1 then none else if id > L.ds.length then none else L.ds[(id - 1).toNat]?
def ptrOf : Option Nat → Value
  | none => .pointer none
  | some b => .pointer (some ⟨b, 0, none⟩)
theorem at_kP {w : World} {A : Option Addr} {n : Nat} {xs : List Nat} (h : Kd.C kP w A n xs) (j : Nat) (hj : j < xs.length) (hn : xs.length = n) : ∃ ad, A = some ad ∧ w.cell? (ad.add j) = some (.pointer (some ⟨xs[j], 0, none⟩)) := by
  obtain ⟨ad, c, e, _, hK, hc⟩ := Kd.C_get h 0 (j : Int) (by omega) (by omega)
  have hK : c = [.pointer (some ⟨xs.getD (j : Int).toNat 0, 0, none⟩)] := hK
  subst hK
  refine ⟨ad, e, ?_⟩
  have := hc 0 _ rfl
  rw [Int.toNat_natCast] at this
  have h2 : w.cell? (ad.add (j * 1 + 0)) = some (.pointer (some ⟨xs.getD j 0, 0, none⟩)) := this
  rw [Nat.mul_one, Nat.add_zero] at h2
  rw [h2]
  simp [hj]
theorem rowLen {α : Type} {d : Kd α} {e : Nat} {w : World} {F : Nat → Prop} {v : Value} {xs : List α} (h : d.R e w 0 F v xs) : xs.length ≤ maxLen := by
  obtain ⟨_, inner, h1, _⟩ := h
  rcases h1.2 with ⟨_, h2⟩ | ⟨g, cap, cur, _, _, _, h3, h4, _⟩
  · simp [h2]
  · omega
set_option maxHeartbeats 4000000 in
set_option maxRecDepth 100000 in
theorem doc_calls (p : Nat) (S : FlowS) (L : Parts) (F : Nat → Prop) (id : Int) (hid : (Lit.int .i64 id).wf = true) (w : World) (h : FlwP w F p S L) :
    Calls Try.prog 36 #[.pointer (some ⟨p, 0, none⟩), .int .i64 id] w fun e w' => e = .returned (ptrOf (docOf L id)) ∧ w' = w := by
  obtain ⟨A, c, hv⟩ := Kd.R_slice h.rowd
  have hlen := rowLen h.rowd
  unfold maxLen at hlen
  have BK := h.blk
  have hR := h.rowd
  rw [hv] at BK hR
  have c2 := (blk_cell BK 2).trans rfl
  have hC := (Kd.R_reads' hR).2.2
  have e1 : (decide (id < 1)) = decide (id < 1) := rfl
  have hw : -9223372036854775808 ≤ id ∧ id ≤ 9223372036854775807 := by
    have h : (decide (IntKind.i64.min ≤ id) && decide (id ≤ IntKind.i64.max)) = true := hid
    rw [Bool.and_eq_true, decide_eq_true_iff, decide_eq_true_iff] at h
    exact ⟨h.1, h.2⟩
  unfold docOf
  by_cases h1 : id < 1
  · have d1 : decide (id < 1) = true := decide_eq_true h1
    rw [if_pos h1]
    clear hC hR BK
    go_enter Try.func36, Try.ntmps36
    go_wp2
    go_ret
    exact ⟨rfl, rfl⟩
  · have d1 : decide (id < 1) = false := decide_eq_false h1
    rw [if_neg h1]
    by_cases h2 : id > L.ds.length
    · have d2 : decide ((L.ds.length : Int) < id) = true := decide_eq_true h2
      rw [if_pos h2]
      clear hC hR BK
      go_enter Try.func36, Try.ntmps36
      go_wp2
      go_ret
      exact ⟨rfl, rfl⟩
    · have d2 : decide ((L.ds.length : Int) < id) = false := decide_eq_false h2
      rw [if_neg h2]
      obtain ⟨j, rfl⟩ : ∃ j : Nat, id = (j : Int) + 1 := ⟨(id - 1).toNat, by omega⟩
      have hj : j < L.ds.length := by omega
      obtain ⟨ad, e, hc⟩ := at_kP hC j hj rfl
      subst e
      have e2 : wrap64 ((j : Int) + 1 - 1) = (j : Int) := by unfold wrap64; omega
      have p0 : (0 : Int) ≤ (j : Int) := by omega
      have p1 : (j : Int) < (L.ds.length : Int) := by omega
      have e3 : L.ds[((j : Int) + 1 - 1).toNat]? = some (L.ds[j]) := by
        rw [show ((j : Int) + 1 - 1).toNat = j by omega]
        exact List.getElem?_eq_getElem hj
      rw [e3]
      clear hC hR BK e3
      go_enter Try.func36, Try.ntmps36
      go_wp2
      go_ret
      exact ⟨rfl, rfl⟩
theorem doc_nil (id : Int) (w : World) : Calls Try.prog 36 #[.pointer none, .int .i64 id] w fun e w' => e = .returned (.pointer none) ∧ w' = w := by
  go_enter Try.func36, Try.ntmps36
  go_wp2
  go_ret
  exact ⟨rfl, rfl⟩
/-- A document, by its number. -/
def docAt (S : FlowS) (id : Int) : Option DocS := if id < 1 then none else if id > S.docs.length then none else S.docs[(id - 1).toNat]?
theorem doc_cases {w : World} {F : Nat → Prop} {p : Nat} {S : FlowS} {L : Parts} (h : FlwP w F p S L) (id : Int) :
    (docOf L id = none ∧ docAt S id = none) ∨ (∃ (j : Nat) (b : Nat) (D : DocS) (v : Value), docOf L id = some b ∧ docAt S id = some D ∧ id = (j : Int) + 1 ∧ j < S.docs.length ∧ L.ds[j]? = some b ∧ S.docs[j]? = some D ∧ L.vp[j]? = some v ∧ DocAt w F b D v) := by
  unfold docOf docAt
  rw [h.lend]
  by_cases h1 : id < 1
  · rw [if_pos h1, if_pos h1]
    exact .inl ⟨rfl, rfl⟩
  · rw [if_neg h1, if_neg h1]
    by_cases h2 : id > S.docs.length
    · rw [if_pos h2, if_pos h2]
      exact .inl ⟨rfl, rfl⟩
    · rw [if_neg h2, if_neg h2]
      obtain ⟨j, rfl⟩ : ∃ j : Nat, id = (j : Int) + 1 := ⟨(id - 1).toNat, by omega⟩
      have hj : j < S.docs.length := by omega
      have a1 : L.ds[j]? = some (L.ds[j]'(by rw [h.lend]; exact hj)) := List.getElem?_eq_getElem _
      have a2 : S.docs[j]? = some (S.docs[j]) := List.getElem?_eq_getElem _
      have a3 : L.vp[j]? = some (L.vp[j]'(by rw [h.lenp]; exact hj)) := List.getElem?_eq_getElem _
      rw [show ((j : Int) + 1 - 1).toNat = j by omega]
      exact .inr ⟨j, _, _, _, a1, a2, rfl, hj, a1, a2, a3, h.docs _ _ _ _ a1 a2 a3⟩
theorem doc_none {p : Nat} {S : FlowS} {L : Parts} {F : Nat → Prop} {id : Int} (hid : (Lit.int .i64 id).wf = true) {w : World} (h : FlwP w F p S L) (hd : docOf L id = none) :
    Calls Try.prog 36 #[.pointer (some ⟨p, 0, none⟩), .int .i64 id] w fun e w' => e = .returned (.pointer none) ∧ w' = w := by
  have := doc_calls p S L F id hid w h
  rw [hd] at this
  exact this
theorem doc_some {p : Nat} {S : FlowS} {L : Parts} {F : Nat → Prop} {id : Int} (hid : (Lit.int .i64 id).wf = true) {w : World} {b : Nat} (h : FlwP w F p S L) (hd : docOf L id = some b) :
    Calls Try.prog 36 #[.pointer (some ⟨p, 0, none⟩), .int .i64 id] w fun e w' => e = .returned (.pointer (some ⟨b, 0, none⟩)) ∧ w' = w := by
  have := doc_calls p S L F id hid w h
  rw [hd] at this
  exact this
def stOf (S : FlowS) (id : Int) : Int := match docAt S id with | some D => D.st | none => 0
def auOf (S : FlowS) (id : Int) : ByteArray := match docAt S id with | some D => D.au | none => ⟨#[]⟩
def apOf (S : FlowS) (id : Int) : List ByteArray := match docAt S id with | some D => D.ap | none => []
set_option maxHeartbeats 2000000 in
theorem state_calls (p : Nat) (S : FlowS) (F : Nat → Prop) (id : Int) (hid : (Lit.int .i64 id).wf = true) (w : World) (h : Flw w F p S) :
    Calls Try.prog 15 #[.pointer (some ⟨p, 0, none⟩), .int .i64 id] w fun e w' => e = .returned (.int .i64 (stOf S id)) ∧ w' = w := by
  obtain ⟨L, h⟩ := h
  unfold stOf
  rcases doc_cases h id with ⟨h1, h2⟩ | ⟨j, b, D, v, h1, h2, -, -, -, -, -, hD⟩
  · rw [h2]
    go_enter Try.func15, Try.ntmps15
    go_wp2_with (first | (go_at_call 36; refine (doc_none hid h h1).mono ?_; rintro e w' ⟨rfl, rfl⟩))
    go_ret
    exact ⟨rfl, rfl⟩
  · rw [h2]
    have c2 := (blk_cell hD.blk 2).trans rfl
    go_enter Try.func15, Try.ntmps15
    go_wp2_with (first | (go_at_call 36; refine (doc_some hid h h1).mono ?_; rintro e w' ⟨rfl, rfl⟩))
    go_ret
    exact ⟨rfl, rfl⟩
theorem state_nil (id : Int) (w : World) : Calls Try.prog 15 #[.pointer none, .int .i64 id] w fun e w' => e = .returned (.int .i64 0) ∧ w' = w := by
  go_enter Try.func15, Try.ntmps15
  go_wp2_with (first | (go_at_call 36; refine (doc_nil id _).mono ?_; rintro e w' ⟨rfl, rfl⟩))
  go_ret
  exact ⟨rfl, rfl⟩
set_option maxHeartbeats 2000000 in
theorem author_calls (p : Nat) (S : FlowS) (F : Nat → Prop) (id : Int) (hid : (Lit.int .i64 id).wf = true) (w : World) (h : Flw w F p S) :
    Calls Try.prog 25 #[.pointer (some ⟨p, 0, none⟩), .int .i64 id] w fun e w' => e = .returned (.string (auOf S id)) ∧ w' = w := by
  obtain ⟨L, h⟩ := h
  unfold auOf
  rcases doc_cases h id with ⟨h1, h2⟩ | ⟨j, b, D, v, h1, h2, -, -, -, -, -, hD⟩
  · rw [h2]
    go_enter Try.func25, Try.ntmps25
    go_wp2_with (first | (go_at_call 36; refine (doc_none hid h h1).mono ?_; rintro e w' ⟨rfl, rfl⟩))
    go_ret
    exact ⟨rfl, rfl⟩
  · rw [h2]
    have c0 := (blk_cell hD.blk 0).trans rfl
    go_enter Try.func25, Try.ntmps25
    go_wp2_with (first | (go_at_call 36; refine (doc_some hid h h1).mono ?_; rintro e w' ⟨rfl, rfl⟩))
    go_ret
    exact ⟨rfl, rfl⟩
theorem author_nil (id : Int) (w : World) : Calls Try.prog 25 #[.pointer none, .int .i64 id] w fun e w' => e = .returned (.string ⟨#[]⟩) ∧ w' = w := by
  go_enter Try.func25, Try.ntmps25
  go_wp2_with (first | (go_at_call 36; refine (doc_nil id _).mono ?_; rintro e w' ⟨rfl, rfl⟩))
  go_ret
  exact ⟨rfl, rfl⟩
end Go.Proofs.Ytbbhichndfbooaa.P
