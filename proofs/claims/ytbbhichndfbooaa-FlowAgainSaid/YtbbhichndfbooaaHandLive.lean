/- The methods' contracts for a workflow of the call's own, and the examples of the chapter. -/
import Derived.Test.YtbbhichndfbooaaHandNew
import Derived.Test.YtbbhichndfbooaaPx6
namespace Go.Proofs.Ytbbhichndfbooaa.P
open Go.RowKit Go.Proofs.YtbbhichndfbooaaW.PrintWords Go.Proofs.YtbbhichndfbooaaW.PrintLast Go.Proofs.YtbbhichndfbooaaW.PrintMore Go.Maps Go.ChangeShapes Go.WideShapes Go.WideMaps
set_option linter.unusedVariables false
set_option linter.unusedSimpArgs false
/-- At p lies a workflow S that was made since the world w0, of which nothing has turned. -/
structure Live (w0 w : World) (p : Nat) (S : FlowS) : Prop where
  ex : ∃ F, Flw w F p S ∧ ∀ k, F k → w0.heap.size ≤ k
  low : Below w0.heap.size w0 w
theorem Live.after {w0 w w' : World} {p : Nat} {S' : FlowS} {F : Nat → Prop} (hl : Below w0.heap.size w0 w) (hk : ∀ k, F k → w0.heap.size ≤ k) (h : After F w w' p S') : Live w0 w' p S' := by
  obtain ⟨G, hG, hs⟩ := h
  exact ⟨⟨G, hG, fun k hg => (hs.grow k hg).elim (hk k) (fun h => Nat.le_trans hl.size h)⟩, hs.but.below hl hl.size hk⟩
theorem Live.below {w0 w w' : World} {p : Nat} {S : FlowS} (h : Live w0 w p S) (hb : Below w.heap.size w w') : Live w0 w' p S := by
  obtain ⟨⟨F, hF, hk⟩, hl⟩ := h
  exact ⟨⟨F, hF.below hb, hk⟩, below_then hl hl.size hb⟩
section
variable {w0 w : World} {p : Nat} {S S' : FlowS}
theorem draft_live (h : Live w0 w p S) (user : ByteArray) (vol : Int) (hn : S.acts.length ≤ 1000000) {i e : Int} (hq : draftOf S user vol = (i, e, S')) :
    Calls Try.prog 28 #[.pointer (some ⟨p, 0, none⟩), .string user, .int .i64 vol] w fun x w' => x = .returned (.tuple #[.int .i64 i, .int .i64 e]) ∧ Live w0 w' p S' := by
  obtain ⟨⟨F, hF, hk⟩, hl⟩ := h
  refine (draft_calls p S F user vol w hF hn).mono ?_
  rw [hq]
  rintro x w' ⟨rfl, ha⟩
  exact ⟨rfl, Live.after hl hk ha⟩
theorem submit_live (h : Live w0 w p S) (id : Int) (hid : (Lit.int .i64 id).wf = true) (user : ByteArray) (hn : S.acts.length ≤ 1000000) {e : Int} (hq : submitOf S id user = (e, S')) :
    Calls Try.prog 29 #[.pointer (some ⟨p, 0, none⟩), .int .i64 id, .string user] w fun x w' => x = .returned (.int .i64 e) ∧ Live w0 w' p S' := by
  obtain ⟨⟨F, hF, hk⟩, hl⟩ := h
  refine (submit_calls p S F id hid user w hF hn).mono ?_
  rw [hq]
  rintro x w' ⟨rfl, ha⟩
  exact ⟨rfl, Live.after hl hk ha⟩
theorem approve_live (h : Live w0 w p S) (id : Int) (hid : (Lit.int .i64 id).wf = true) (user : ByteArray) (hn : S.acts.length ≤ 1000000) (ha : (docD S id).ap.length ≤ 1000000) {e : Int} (hq : approveOf S id user = (e, S')) :
    Calls Try.prog 30 #[.pointer (some ⟨p, 0, none⟩), .int .i64 id, .string user] w fun x w' => x = .returned (.int .i64 e) ∧ Live w0 w' p S' := by
  obtain ⟨⟨F, hF, hk⟩, hl⟩ := h
  refine (approve_calls p S F id hid user w hF hn ha).mono ?_
  rw [hq]
  rintro x w' ⟨rfl, ha⟩
  exact ⟨rfl, Live.after hl hk ha⟩
theorem reject_live (h : Live w0 w p S) (id : Int) (hid : (Lit.int .i64 id).wf = true) (user : ByteArray) (hn : S.acts.length ≤ 1000000) {e : Int} (hq : rejectOf S id user = (e, S')) :
    Calls Try.prog 57 #[.pointer (some ⟨p, 0, none⟩), .int .i64 id, .string user] w fun x w' => x = .returned (.int .i64 e) ∧ Live w0 w' p S' := by
  obtain ⟨⟨F, hF, hk⟩, hl⟩ := h
  refine (reject_calls p S F id hid user w hF hn).mono ?_
  rw [hq]
  rintro x w' ⟨rfl, ha⟩
  exact ⟨rfl, Live.after hl hk ha⟩
theorem redraft_live (h : Live w0 w p S) (id : Int) (hid : (Lit.int .i64 id).wf = true) (user : ByteArray) (hn : S.acts.length ≤ 1000000) {e : Int} (hq : redraftOf S id user = (e, S')) :
    Calls Try.prog 58 #[.pointer (some ⟨p, 0, none⟩), .int .i64 id, .string user] w fun x w' => x = .returned (.int .i64 e) ∧ Live w0 w' p S' := by
  obtain ⟨⟨F, hF, hk⟩, hl⟩ := h
  refine (redraft_calls p S F id hid user w hF hn).mono ?_
  rw [hq]
  rintro x w' ⟨rfl, ha⟩
  exact ⟨rfl, Live.after hl hk ha⟩
theorem cancel_live (h : Live w0 w p S) (id : Int) (hid : (Lit.int .i64 id).wf = true) (user : ByteArray) (hn : S.acts.length ≤ 1000000) {e : Int} (hq : cancelOf S id user = (e, S')) :
    Calls Try.prog 59 #[.pointer (some ⟨p, 0, none⟩), .int .i64 id, .string user] w fun x w' => x = .returned (.int .i64 e) ∧ Live w0 w' p S' := by
  obtain ⟨⟨F, hF, hk⟩, hl⟩ := h
  refine (cancel_calls p S F id hid user w hF hn).mono ?_
  rw [hq]
  rintro x w' ⟨rfl, ha⟩
  exact ⟨rfl, Live.after hl hk ha⟩
theorem post_live (h : Live w0 w p S) (id : Int) (hid : (Lit.int .i64 id).wf = true) (user : ByteArray) (hn : S.acts.length ≤ 1000000) {e : Int} (hq : postOf S id user = (e, S')) :
    Calls Try.prog 31 #[.pointer (some ⟨p, 0, none⟩), .int .i64 id, .string user] w fun x w' => x = .returned (.int .i64 e) ∧ Live w0 w' p S' := by
  obtain ⟨⟨F, hF, hk⟩, hl⟩ := h
  refine (post_calls p S F id hid user w hF hn).mono ?_
  rw [hq]
  rintro x w' ⟨rfl, ha⟩
  exact ⟨rfl, Live.after hl hk ha⟩
theorem state_live (h : Live w0 w p S) (id : Int) (hid : (Lit.int .i64 id).wf = true) {s : Int} (hq : stOf S id = s) :
    Calls Try.prog 15 #[.pointer (some ⟨p, 0, none⟩), .int .i64 id] w fun x w' => x = .returned (.int .i64 s) ∧ w' = w := by
  obtain ⟨⟨F, hF, hk⟩, hl⟩ := h
  have := state_calls p S F id hid w hF
  rw [hq] at this
  exact this
theorem need_live (h : Live w0 w p S) (v : Int) {n : Int} {ok : Bool} (hq : needOf S.steps v = (n, ok)) :
    Calls Try.prog 13 #[.pointer (some ⟨p, 0, none⟩), .int .i64 v] w fun x w' => x = .returned (.tuple #[.int .i64 n, .bool ok]) ∧ Live w0 w' p S := by
  have h2 := h
  obtain ⟨⟨F, hF, hk⟩, hl⟩ := h
  refine (need_is hq hF).mono ?_
  rintro x w' ⟨rfl, hb⟩
  exact ⟨rfl, h2.below hb⟩
theorem acts_live (h : Live w0 w p S) {n : Nat} (hl : S.acts.length = n) (hn : n ≤ 1000000) :
    Calls Try.prog 16 #[.pointer (some ⟨p, 0, none⟩)] w fun x w' => (∃ A c, x = .returned (.slice A n c) ∧ n ≤ c ∧ Kd.C k55 w' A n S.acts) ∧ Live w0 w' p S := by
  subst hl
  have h2 := h
  obtain ⟨⟨F, hF, hk⟩, hl⟩ := h
  refine (acts_calls p S F w hF hn).mono ?_
  rintro x w' ⟨v, rfl, hr, hb⟩
  obtain ⟨A, c, rfl, hc, hC⟩ := Kd.R_reads hr
  exact ⟨⟨A, c, rfl, hc, hC⟩, h2.below hb⟩
theorem approvals_live (h : Live w0 w p S) (id : Int) (hid : (Lit.int .i64 id).wf = true) {l : List ByteArray} (hq : apOf S id = l) (hn : l.length ≤ 1000000) :
    Calls Try.prog 23 #[.pointer (some ⟨p, 0, none⟩), .int .i64 id] w fun x w' => (∃ A c, x = .returned (.slice A l.length c) ∧ l.length ≤ c ∧ Kd.string.C w' A l.length l) ∧ Live w0 w' p S := by
  have h2 := h
  obtain ⟨⟨F, hF, hk⟩, hl⟩ := h
  subst hq
  refine (approvals_calls p S F id hid w hF hn).mono ?_
  rintro x w' ⟨v, rfl, hr, hb⟩
  obtain ⟨A, c, rfl, hc, hC⟩ := Kd.R_reads hr
  exact ⟨⟨A, c, rfl, hc, hC⟩, h2.below hb⟩
end
def ann : ByteArray := ⟨#[97, 110, 110]⟩
def bob : ByteArray := ⟨#[98, 111, 98]⟩
def cid : ByteArray := ⟨#[99, 105, 100]⟩
def E0 : FlowS := ⟨[⟨100, 0⟩, ⟨5000, 2⟩], [ann, bob, cid], [], []⟩
def E1 : FlowS := (draftOf E0 ann 700).2.2
def E2 : FlowS := (submitOf E1 1 ann).2
def E3 : FlowS := (approveOf E2 1 ann).2
def E4 : FlowS := (approveOf E3 1 bob).2
def E5 : FlowS := (approveOf E4 1 bob).2
def E6 : FlowS := (approveOf E5 1 cid).2
def E7 : FlowS := (postOf E6 1 ann).2
def E8 : FlowS := (draftOf E7 ann 50).2.2
def E9 : FlowS := (submitOf E8 2 ann).2
def E10 : FlowS := (draftOf E9 ann 6000).2.2
def E11 : FlowS := (submitOf E10 3 ann).2
theorem e0 : newErr true E0.steps E0.appr = 0 := by decide +kernel
theorem e1 : draftOf E0 ann 700 = (1, 0, E1) := Prod.ext (by decide +kernel) (Prod.ext (by decide +kernel) rfl)
theorem e2 : submitOf E1 1 ann = (0, E2) := Prod.ext (by decide +kernel) rfl
theorem e3 : approveOf E2 1 ann = (19, E3) := Prod.ext (by decide +kernel) rfl
theorem e4 : approveOf E3 1 bob = (0, E4) := Prod.ext (by decide +kernel) rfl
theorem e5 : approveOf E4 1 bob = (8, E5) := Prod.ext (by decide +kernel) rfl
theorem e6 : approveOf E5 1 cid = (0, E6) := Prod.ext (by decide +kernel) rfl
theorem e6s : stOf E6 1 = 3 := by decide +kernel
theorem e7 : postOf E6 1 ann = (0, E7) := Prod.ext (by decide +kernel) rfl
theorem e8 : draftOf E7 ann 50 = (2, 0, E8) := Prod.ext (by decide +kernel) (Prod.ext (by decide +kernel) rfl)
theorem e9 : submitOf E8 2 ann = (0, E9) := Prod.ext (by decide +kernel) rfl
theorem e10 : draftOf E9 ann 6000 = (3, 0, E10) := Prod.ext (by decide +kernel) (Prod.ext (by decide +kernel) rfl)
theorem e10n : needOf E10.steps 6000 = (0, false) := Prod.ext (by decide +kernel) (by decide +kernel)
theorem e10s : stOf E10 1 = 5 := by decide +kernel
theorem e10t : stOf E10 2 = 3 := by decide +kernel
theorem e11 : submitOf E10 3 ann = (3, E11) := Prod.ext (by decide +kernel) rfl
theorem e11l : E11.acts.length = 8 := by decide +kernel
theorem e11a : apOf E11 1 = [bob, cid] := by kernel_rfl
theorem right_ex : ∃ k, flow_right.f k E0.steps = some true := ⟨10, by decide +kernel⟩
theorem lit_S (W : World) (xs : List ByteArray) (hm : xs.length ≤ 9223372036854775807) : Kd.string.C (W.alloc (.cells (encs Value.string xs).toArray 9)) (some ⟨W.heap.size, 0, none⟩) xs.length xs :=
  (Kd.R_reads' (Kd.R_of_own (own_lit_of W 0 9 xs (Nat.zero_le _) hm) (ok := fun _ => True) (h1 := fun _ => rfl) (fun _ _ => trivial))).2.2
theorem lit_60 (W : World) : Kd.C k60 (W.alloc (.cells #[.int .i64 100, .int .i64 0, .int .i64 5000, .int .i64 2] 60)) (some ⟨W.heap.size, 0, none⟩) 2 E0.steps := by
  have hr : Reps (k60.M (W.alloc (.cells #[.int .i64 100, .int .i64 0, .int .i64 5000, .int .i64 2] 60)) 0 (fun k => True ∧ some k ≠ (Value.slice (some ⟨W.heap.size, 0, none⟩) 2 2).ownBlock)) 2 E0.steps [.int .i64 100, .int .i64 0, .int .i64 5000, .int .i64 2] :=
    ((Reps.none _ _).snoc (c := [.int .i64 100, .int .i64 0]) (p := (⟨100, 0⟩ : S60)) (k60_mkM _ _ _ ⟨100, 0⟩) rfl).snoc (c := [.int .i64 5000, .int .i64 2]) (p := (⟨5000, 2⟩ : S60)) (k60_mkM _ _ _ ⟨5000, 2⟩) rfl
  have := OwnRow.lit (e := 60) W 0 hr (Nat.zero_le _) (by decide)
  exact (Kd.R_reads' (d := k60) (ok := fun _ => True) ⟨fun _ _ => trivial, this⟩).2.2
set_option maxHeartbeats 16000000 in
set_option maxRecDepth 100000 in
theorem lives_calls (w : World) : Calls Try.prog 10 #[] w fun e w' => e = .returned (.bool true) ∧ Below w.heap.size w w' := by
  obtain ⟨kr, hkr⟩ := right_ex
  have hC1 := lit_S (w.alloc (.cells #[.int .i64 100, .int .i64 0, .int .i64 5000, .int .i64 2] 60)) E0.appr (by decide)
  rw [show (w.alloc (.cells #[.int .i64 100, .int .i64 0, .int .i64 5000, .int .i64 2] 60)).heap.size = w.heap.size + 1 by simp] at hC1
  have H1 := Aside0.mk hC1
  have H0 := Aside0.mk (Kd.C_alloc (lit_60 w) (.cells (encs Value.string E0.appr).toArray 9))
  have HR := Aside0.mk hkr
  clear hC1 hkr
  go_enter Try.func10, Try.ntmps10
  go_upto_region 2 with (first | (go_at_call 11; refine (new_calls (some ⟨w.heap.size, 0, none⟩) 2 E0.steps (some ⟨w.heap.size + 1, 0, none⟩) 3 E0.appr _ H0.out (by decide) H1.out kr true HR.out).mono ?_; rw [e0]; rintro e w1 ⟨hb, ⟨hx, _⟩ | ⟨_, p, F, rfl, hF, hk⟩⟩; (try exact absurd rfl hx); have HL0 := Aside0.mk (Live.mk (w0 := w) ⟨F, hF, fun k hk' => Nat.le_trans (by simp; omega) (hk k hk')⟩ (below_then (below_alloc (below_alloc (Below.refl _ w) _) _) (by simp; omega) hb)); clear hb hF hk))
  go_upto_region 5 with (first | (go_at_call 28; refine (draft_live HL0.out ann 700 (by decide +kernel) e1).mono ?_; rintro e w2 ⟨rfl, hl_⟩; have HL1 := Aside0.mk hl_; clear hl_ HL0))
  go_upto_region 6 with (first | (go_at_call 29; refine (submit_live HL1.out 1 (by decide) ann (by decide +kernel) e2).mono ?_; rintro e w3 ⟨rfl, hl_⟩; have HL2 := Aside0.mk hl_; clear hl_ HL1))
  go_upto_region 7 with (first | (go_at_call 30; refine (approve_live HL2.out 1 (by decide) ann (by decide +kernel) (by decide +kernel) e3).mono ?_; rintro e w4 ⟨rfl, hl_⟩; have HL3 := Aside0.mk hl_; clear hl_ HL2))
  go_upto_region 8 with (first | (go_at_call 30; refine (approve_live HL3.out 1 (by decide) bob (by decide +kernel) (by decide +kernel) e4).mono ?_; rintro e w5 ⟨rfl, hl_⟩; have HL4 := Aside0.mk hl_; clear hl_ HL3))
  go_upto_region 9 with (first | (go_at_call 30; refine (approve_live HL4.out 1 (by decide) bob (by decide +kernel) (by decide +kernel) e5).mono ?_; rintro e w6 ⟨rfl, hl_⟩; have HL5 := Aside0.mk hl_; clear hl_ HL4))
  go_upto_region 10 with (first | (go_at_call 30; refine (approve_live HL5.out 1 (by decide) cid (by decide +kernel) (by decide +kernel) e6).mono ?_; rintro e w7 ⟨rfl, hl_⟩; have HL6 := Aside0.mk hl_; clear hl_ HL5))
  go_upto_region 11 with (first | (go_at_call 15; refine (state_live HL6.out 1 (by decide) e6s).mono ?_; rintro e w_ ⟨rfl, he_⟩; obtain rfl := he_.symm))
  go_upto_region 12 with (first | (go_at_call 31; refine (post_live HL6.out 1 (by decide) ann (by decide +kernel) e7).mono ?_; rintro e w8 ⟨rfl, hl_⟩; have HL7 := Aside0.mk hl_; clear hl_ HL6))
  go_upto_region 13 with (first | (go_at_call 28; refine (draft_live HL7.out ann 50 (by decide +kernel) e8).mono ?_; rintro e w9 ⟨rfl, hl_⟩; have HL8 := Aside0.mk hl_; clear hl_ HL7))
  go_upto_region 14 with (first | (go_at_call 29; refine (submit_live HL8.out 2 (by decide) ann (by decide +kernel) e9).mono ?_; rintro e w10 ⟨rfl, hl_⟩; have HL9 := Aside0.mk hl_; clear hl_ HL8))
  go_upto_region 15 with (first | (go_at_call 28; refine (draft_live HL9.out ann 6000 (by decide +kernel) e10).mono ?_; rintro e w11 ⟨rfl, hl_⟩; have HL10 := Aside0.mk hl_; clear hl_ HL9))
  go_wp2_with (first | (go_at_call 13; refine (need_live HL10.out 6000 e10n).mono ?_; rintro e w12 ⟨rfl, hl_⟩; have HLa := Aside0.mk hl_; clear hl_ HL10) | (go_at_call 15; (with_reducible refine (state_live HLa.out 1 (by decide) e10s).mono ?_); rintro e w_ ⟨rfl, he_⟩; obtain rfl := he_.symm) | (go_at_call 15; (with_reducible refine (state_live HLa.out 2 (by decide) e10t).mono ?_); rintro e w_ ⟨rfl, he_⟩; obtain rfl := he_.symm) | (go_at_call 29; refine (submit_live HLa.out 3 (by decide) ann (by decide +kernel) e11).mono ?_; rintro e w13 ⟨rfl, hl_⟩; have HL11 := Aside0.mk hl_; clear hl_ HLa) | (go_at_call 16; refine (acts_live HL11.out e11l (by decide)).mono ?_; rintro e w14 ⟨⟨A0, c0, rfl, _, _⟩, hl_⟩; have HL12 := Aside0.mk hl_; clear hl_ HL11) | (go_at_call 23; refine (approvals_live HL12.out 1 (by decide) e11a (by decide)).mono ?_; rintro e w15 ⟨⟨A1, c1, rfl, hc1, hC1⟩, hl_⟩; have HL13 := Aside0.mk hl_; have HC1 := Aside0.mk hC1; have HCC := Aside0.mk hc1; clear hl_ HL12 hC1 hc1) | (go_at_call 26; refine (accountingref15_SameTexts.calls 10 A1 c1 [bob, cid] (some ⟨w15.heap.size, 0, none⟩) 2 [bob, cid] true _ (Kd.C_alloc HC1.out _) HCC.out (lit_S w15 [bob, cid] (by decide)) (by decide) (by decide +kernel)).mono ?_; rintro e w16 ⟨rfl, hd_⟩; have HD := Aside0.mk hd_; clear hd_))
  go_ret
  exact ⟨rfl, below_then (below_alloc HL13.out.low _) (by have := HL13.out.low.size; simp; omega) HD.out.below⟩
end Go.Proofs.Ytbbhichndfbooaa.P
