/- The contract of New. -/
import Derived.Test.YtbbhichndfbooaaHandMap
import Derived.Test.YtbbhichndfbooaaPx3
namespace Go.Proofs.Ytbbhichndfbooaa.P
open Go.RowKit Go.Proofs.YtbbhichndfbooaaW.PrintWords Go.Proofs.YtbbhichndfbooaaW.PrintLast Go.Proofs.YtbbhichndfbooaaW.PrintMore Go.Maps Go.ChangeShapes Go.WideShapes Go.WideMaps
set_option linter.unusedVariables false
set_option linter.unusedSimpArgs false
theorem info60 : (Try.prog.info? 60).map (fun i => (i.zero, i.size, i.bytes)) = some (some (.agg #[.int .i64 0, .int .i64 0]), 2, 16) := by kernel_rfl
/-- The first problem of a list of approvers. -/
def apErr (pre : List ByteArray) : List ByteArray → Int
  | [] => 0
  | a :: r => if codeB a = false then 7 else if hasB pre a = true then 8 else apErr (pre ++ [a]) r
def newErr (rt : Bool) (steps : List S60) (apprs : List ByteArray) : Int :=
  if steps.length > 200 ∨ apprs.length > 200 then 9 else if rt = false then 2 else apErr [] apprs
/-- What New returns. -/
def NewPost (w w' : World) (x : Ending) (err : Int) (steps : List S60) (apprs : List ByteArray) : Prop :=
  Below w.heap.size w w' ∧ ((err ≠ 0 ∧ x = .returned (.tuple #[.pointer none, .int .i64 err])) ∨ (err = 0 ∧ ∃ p F, x = .returned (.tuple #[.pointer (some ⟨p, 0, none⟩), .int .i64 0]) ∧ Flw w' F p ⟨steps, apprs, [], []⟩ ∧ ∀ k, F k → w.heap.size ≤ k))
theorem NewPost.bad {w w' : World} {err : Int} {steps : List S60} {apprs : List ByteArray} (h : Below w.heap.size w w') (he : err ≠ 0) : NewPost w w' (.returned (.tuple #[.pointer none, .int .i64 err])) err steps apprs := ⟨h, .inl ⟨he, rfl⟩⟩
set_option maxHeartbeats 8000000 in
set_option maxRecDepth 100000 in
theorem new_calls (A0 : Option Addr) (c0 : Nat) (steps : List S60) (A1 : Option Addr) (c1 : Nat) (apprs : List ByteArray) (w : World) (h0 : Kd.C k60 w A0 steps.length steps) (hc0 : steps.length ≤ c0) (h1 : Kd.string.C w A1 apprs.length apprs) (kr : Nat) (rt : Bool) (hr : flow_right.f kr steps = some rt) :
    Calls Try.prog 11 #[.slice A0 steps.length c0, .slice A1 apprs.length c1] w fun e w' => NewPost w w' e (newErr rt steps apprs) steps apprs := by
  have H0 := Aside0.mk h0
  have H1 := Aside0.mk h1
  have HR := Aside0.mk hr
  clear h0 h1 hr
  obtain ⟨err, he⟩ : ∃ err, newErr rt steps apprs = err := ⟨_, rfl⟩
  rw [he]
  have HE := Aside0.mk he
  clear he
  by_cases hl : steps.length > 200
  · have herr : err = 9 := by rw [← HE.out]; unfold newErr; rw [if_pos (.inl hl)]
    subst herr
    have d : decide ((200 : Int) < (steps.length : Int)) = true := decide_eq_true (by omega)
    go_enter Try.func11, Try.ntmps11
    go_wp2
    go_ret2
    exact NewPost.bad (Below.refl _ _) (by decide)
  by_cases hl1 : apprs.length > 200
  · have herr : err = 9 := by rw [← HE.out]; unfold newErr; rw [if_pos (.inr hl1)]
    subst herr
    have d0 : decide ((200 : Int) < (steps.length : Int)) = false := decide_eq_false (by omega)
    have d : decide ((200 : Int) < (apprs.length : Int)) = true := decide_eq_true (by omega)
    go_enter Try.func11, Try.ntmps11
    go_wp2
    go_ret2
    exact NewPost.bad (Below.refl _ _) (by decide)
  have d0 : decide ((200 : Int) < (steps.length : Int)) = false := decide_eq_false (by omega)
  have d1 : decide ((200 : Int) < (apprs.length : Int)) = false := decide_eq_false (by omega)
  cases rt
  · have herr : err = 2 := by rw [← HE.out]; unfold newErr; rw [if_neg (by omega), if_pos rfl]
    subst herr
    go_enter Try.func11, Try.ntmps11
    go_wp2_with (first | (go_at_call 32; refine (flow_right.calls kr A0 c0 steps false _ H0.out hc0 HR.out).mono ?_; rintro e w1 ⟨rfl, hdr⟩; have HB := Aside0.mk hdr; clear hdr))
    go_ret2
    exact NewPost.bad HB.out (by decide)
  have HE2 := Aside0.mk (show apErr [] apprs = err by rw [← HE.out]; unfold newErr; rw [if_neg (by omega), if_neg (by decide)])
  clear HE
  have hmm := @run_makeMap Try.prog
  go_enter Try.func11, Try.ntmps11
  go_upto_region 6 with (first | (go_at_call 32; refine (flow_right.calls kr A0 c0 steps true _ H0.out hc0 HR.out).mono ?_; rintro e w1 ⟨rfl, hdr⟩; have HB := Aside0.mk hdr; clear hdr) | ((with_reducible refine gate_builtin (b := .append) (xs := #[.const (.slice none 0 0), .tmp 19]) rfl ?_); at_builtin; refine Kd.R_append_rows k60 (w0 := w) (Rr := k60.K w1) w.heap.size rfl (.const (.slice none 0 0)) (.tmp 19) 22 60 (.agg #[.int .i64 0, .int .i64 0]) 16 rfl Try.underlying22 info60 rfl (by decide) (by omega) (.slice none 0 0) [] steps A0 steps.length c0 (fun k => w.heap.size ≤ k) (fun _ => False) rfl rfl ?aO ?aR ?aK (fun _ hk => hk.elim) ?aF ?aB ?aS ?aL ?_; (case aO => exact Kd.R_nil _ _ _ _ _); (case aR => exact Kd.C_below H0.out HB.out); (case aK => exact fun x cs hx => by obtain rfl := k60_open hx; exact k60_mkM _ _ _ _); (case aF => exact fun k hk => Nat.le_trans HB.out.size hk); (case aB => exact HB.out); (case aS => exact HB.out.size); (case aL => simp; omega); intro v1 w2 ho hb hg hat; obtain ⟨A2, c2, rfl⟩ := Kd.R_slice ho; have HO := Aside0.mk ho; have HB2 := Aside0.mk hb; clear ho hb hg hat))
  clear hmm
  refine with_world (P := fun x => Code.wp _ _ _ _ x) _ ?_
  intro w3 hw3
  have h0 := HO.out
  rw [List.nil_append] at h0
  have HP3 := Aside0.mk (show w3.heap[w2.heap.size + 1]? = some (.cells #[.slice A2 steps.length c2, .map (some w2.heap.size), .slice none 0 0, .slice none 0 0] 67 (0, 0)) from by
    rw [hw3]
    have := blk_new (w2.alloc (.map #[] 0)) (.cells #[.slice A2 steps.length c2, .map (some w2.heap.size), .slice none 0 0, .slice none 0 0] 67)
    rw [show (w2.alloc (.map #[] 0)).heap.size = w2.heap.size + 1 by simp] at this
    exact this)
  have HM3 := Aside0.mk (show MapB w3 w2.heap.size 0 [] from by
    rw [hw3]
    exact (MapB.made w2).move (Below.heap_alloc _ _ _ (MapB.made w2).lt))
  have HR3 := Aside0.mk (show k60.R 60 w3 w.heap.size (fun k => w.heap.size ≤ k) (.slice A2 steps.length c2) steps from by
    rw [hw3]
    exact Kd.R_alloc (Kd.R_alloc h0 _) _)
  have HB3 := Aside0.mk (show Below w.heap.size w w3 from by
    rw [hw3]
    exact below_alloc (below_alloc HB2.out _) _)
  have HSZ := Aside0.mk (show w.heap.size ≤ w2.heap.size from HB2.out.size)
  clear hw3 h0 HO HB HB2
  obtain ⟨m, hm⟩ : ∃ m, w2.heap.size = m := ⟨_, rfl⟩
  rw [hm] at HP3 HM3 HSZ ⊢
  clear hm
  go_wp2
  go_loopw [4, 5, 7, 26, 27, 28, 29, 30, 31, 32, 33, 34, 35, 36, 37, 38, 39, 40, 41, 42, 43, 44] (fun v4 _ _ v26 _ _ _ _ _ _ _ _ _ _ _ _ _ _ _ _ _ _ wr => ∃ k : Nat, k ≤ apprs.length ∧ v4 = .pointer (some ⟨m + 1, 0, none⟩) ∧ v26 = .int .i64 k ∧ Aside0 (Below w.heap.size w wr) ∧ Aside0 (wr.heap[m + 1]? = some (.cells #[.slice A2 steps.length c2, .map (some m), .slice none 0 0, .slice none 0 0] 67 (0, 0))) ∧ Aside0 (k60.R 60 wr w.heap.size (fun k => w.heap.size ≤ k) (.slice A2 steps.length c2) steps) ∧ Aside0 (MapB wr m k (apprs.take k)) ∧ Aside0 (apErr (apprs.take k) (apprs.drop k) = err)) (fun _ _ _ v26 _ _ _ _ _ _ _ _ _ _ _ _ _ _ _ _ _ _ _ => apprs.length - (intOf v26).toNat)
  case atStart => exact ⟨0, Nat.zero_le _, rfl, rfl, HB3, HP3, HR3, HM3, HE2⟩
  case round =>
    clear HB3 HP3 HR3 HM3 HE2
    obtain ⟨k, hk, rfl, rfl, HB, HP, HRS, HM, HE⟩ := hrel
    by_cases hlt : k < apprs.length
    · obtain ⟨ad, e, q0⟩ := Kd.at_string (Kd.C_below H1.out HB.out) (k : Int) (by omega) (by omega)
      subst e
      rw [Int.toNat_natCast] at q0
      have d1 : decide ((k : Int) < (apprs.length : Int)) = true := decide_eq_true (by omega)
      have d2 : decide (k < apprs.length) = true := decide_eq_true hlt
      have p0 : (0 : Int) ≤ (k : Int) := by omega
      have p1 : (k : Int) < (apprs.length : Int) := by omega
      have hsk : rdOf ByteArray.empty apprs (k : Int) = apprs[k] := by simp [rdOf, hlt]
      obtain ⟨s, hs⟩ : ∃ s, rdOf ByteArray.empty apprs (k : Int) = s := ⟨_, rfl⟩
      rw [hs] at q0 hsk
      have hdr : apprs.drop k = s :: apprs.drop (k + 1) := by rw [hsk, List.drop_eq_getElem_cons hlt]
      have htk : apprs.take (k + 1) = apprs.take k ++ [s] := by rw [List.take_add_one, List.getElem?_eq_getElem hlt, hsk]; rfl
      have hap : apErr (apprs.take k) (s :: apprs.drop (k + 1)) = err := by rw [← hdr]; exact HE.out
      have hap : (if codeB s = false then (7 : Int) else if hasB (apprs.take k) s = true then 8 else apErr (apprs.take k ++ [s]) (apprs.drop (k + 1))) = err := hap
      have HTK := Aside0.mk htk
      clear hs hsk hdr htk HE
      cases hc : codeB s
      · rw [hc, if_pos rfl] at hap
        subst hap
        have HC := Aside0.mk hc
        clear hc
        go_wp2_with (first | (go_at_call 33; refine (code_is HC.out _).mono ?_; rintro e w4 ⟨rfl, hdr⟩; have HB4 := Aside0.mk hdr.below; have HB5 := Aside0.mk (below_then HB.out HB.out.size HB4.out)))
        go_ret2
        exact NewPost.bad HB5.out (by decide)
      · rw [hc, if_neg (by decide)] at hap
        have hsz := code_size hc
        have HC := Aside0.mk hc
        clear hc
        obtain ⟨hb, hhb⟩ : ∃ hb, hasB (apprs.take k) s = hb := ⟨_, rfl⟩
        rw [hhb] at hap
        have HH := Aside0.mk hhb
        clear hhb
        cases hb
        · rw [if_neg (by decide)] at hap
          have HAP := Aside0.mk hap
          clear hap
          have hup : ∀ w4, Below wr.heap.size wr w4 → ∃ w5, (Instr.mapUpdate 64 (.map (some m)) (.string s) (.bool true)).run Try.prog w4 = .ok () w5 ∧ MapB w5 m (k + 1) (apprs.take k ++ [s]) ∧ w4.grownBy w5 (some m) := fun w4 hb4 => (HM.out.move (hb4.block _ HM.out.lt)).store (by unfold maxLen; omega) hsz
          have HUP := Aside0.mk hup
          clear hup
          go_wp2_with (first | (go_at_call 33; refine (code_is HC.out _).mono ?_; rintro e w4 ⟨rfl, hdr⟩; have HB4 := Aside0.mk hdr.below; have c1 := (blk_cell (blk_below HP.out HB4.out) 1).trans rfl; have hlk := (HM.out.move (HB4.out.block _ HM.out.lt)).look hsz; rw [HH.out] at hlk; obtain ⟨w5, hup, hM5, hg5⟩ := HUP.out w4 HB4.out; have HM5 := Aside0.mk hM5; have HG5 := Aside0.mk hg5; clear hM5 hg5))
          go_roundw
          case rel =>
            have hmt : ∀ x : Nat, Typed w4 x 60 ∨ Typed w4 x 67 → some x ≠ some m := fun x hx e => by
              obtain rfl : x = m := Option.some.inj e
              have hw := (HM.out.move (HB4.out.block _ HM.out.lt)).who
              rcases hx with hx | hx
              · exact typed_map hx hw rfl
              · exact typed_map hx hw rfl
            have hR4 := Kd.R_below HRS.out HB4.out
            refine ⟨k + 1, by omega, rfl, by go_num, ⟨?_⟩, ⟨blk_grown (blk_below HP.out HB4.out) HG5.out (hmt _ (.inr ⟨_, blk_below HP.out HB4.out⟩))⟩, ⟨?_⟩, ⟨?_⟩, ⟨?_⟩⟩
            · have hb4 := below_then HB.out HB.out.size HB4.out
              exact ⟨HG5.out.os.trans hb4.os, HG5.out.tape.trans hb4.tape, HG5.out.output.trans hb4.output, Nat.le_trans hb4.size HG5.out.size, fun x hx => (HG5.out.block x (Nat.lt_of_lt_of_le hx hb4.size) (fun e => by have := Option.some.inj e; have := HSZ.out; omega)).trans (hb4.block x hx)⟩
            · have h1 := Kd.R_mono (Kd.R_tight rfl hR4) (ok' := fun x => (Value.slice A2 steps.length c2).ownBlock = some x) (fun x hx => hx.symm)
              exact Kd.R_mono (Kd.R_step h1 (fun x hx hlt => HG5.out.block x hlt (hmt x (.inl (Kd.R_typed hR4 x hx))))) (fun x hx => hR4.1 x hx)
            · rw [HTK.out]
              exact HM5.out
            · rw [HTK.out]
              exact HAP.out
          case measure => simp [intOf]; omega
        · rw [if_pos rfl] at hap
          subst hap
          go_wp2_with (first | (go_at_call 33; refine (code_is HC.out _).mono ?_; rintro e w4 ⟨rfl, hdr⟩; have HB4 := Aside0.mk hdr.below; have c1 := (blk_cell (blk_below HP.out HB4.out) 1).trans rfl; have hlk := (HM.out.move (HB4.out.block _ HM.out.lt)).look hsz; rw [HH.out] at hlk))
          go_ret2
          exact NewPost.bad (below_then HB.out HB.out.size HB4.out) (by decide)
    · obtain rfl : k = apprs.length := by omega
      have d1 : decide ((apprs.length : Int) < (apprs.length : Int)) = false := decide_eq_false (by omega)
      go_wp2
      go_ret2
      have herr : err = 0 := by
        have := HE.out
        rw [List.drop_length] at this
        exact this.symm
      subst herr
      have hM := HM.out
      rw [List.take_length] at hM
      have hsz := HB.out.size
      refine ⟨HB.out, .inr ⟨rfl, m + 1, fun x => w.heap.size ≤ x ∧ x < wr.heap.size, rfl, ⟨⟨.slice A2 steps.length c2, m, .slice none 0 0, .slice none 0 0, [], []⟩, ?_⟩, fun x hx => hx.1⟩⟩
      refine ⟨HP.out, ⟨by have := HSZ.out; omega, blk_lt HP.out⟩, ?_, hM.who, ⟨HSZ.out, hM.lt⟩, Kd.R_nil _ _ _ _ _, Kd.R_nil _ _ _ _ _, rfl, rfl, fun j b D v h1 _ _ => by simp at h1, .nil, .nil, fun x hx => hx.2⟩
      exact Kd.R_mono (Kd.R_bound (Kd.R_lower HRS.out (Nat.zero_le _))) (fun x hx => ⟨hx.1, hx.2.2.1⟩)
end Go.Proofs.Ytbbhichndfbooaa.P
