/- The contracts of permitted, find, settle and move. -/
import Derived.Test.YtbbhichndfbooaaHandDraft
namespace Go.Proofs.Ytbbhichndfbooaa.P
open Go.RowKit Go.Proofs.YtbbhichndfbooaaW.PrintWords Go.Proofs.YtbbhichndfbooaaW.PrintLast Go.Proofs.YtbbhichndfbooaaW.PrintMore Go.Maps Go.ChangeShapes Go.WideShapes Go.WideMaps
set_option linter.unusedVariables false
set_option linter.unusedSimpArgs false
def permB (S : FlowS) (au : ByteArray) (who : Int) (user : ByteArray) : Bool :=
  if who = 0 then user.toList == au.toList else if who = 1 then hasB S.appr user && !(user.toList == au.toList) else (user.toList == au.toList) || hasB S.appr user
set_option maxHeartbeats 4000000 in
set_option maxRecDepth 100000 in
theorem permitted_calls (p b : Nat) (S : FlowS) (L : Parts) (F : Nat → Prop) (who : Int) (user : ByteArray) (hu : user.size ≤ maxLen) (D : DocS) (v : Value) (w : World) (h : FlwP w F p S L) (hD : DocAt w F b D v) :
    Calls Try.prog 60 #[.pointer (some ⟨p, 0, none⟩), .pointer (some ⟨b, 0, none⟩), .int .i64 who, .string user] w fun e w' => e = .returned (.bool (permB S D.au who user)) ∧ Drawn0 w w' := by
  have c1 := (blk_cell h.blk 1).trans rfl
  have c0 := (blk_cell hD.blk 0).trans rfl
  obtain ⟨es, cl, hm, hlook⟩ := h.who
  have hl1 : ∀ n, (Instr.lookup 64 (.map (some L.m)) (.string user) false).run Try.prog (w.drewN n) = .ok (.bool (hasB S.appr user)) (w.drewN n) := fun n => hlook _ _ hm hu
  have hl0 : (Instr.lookup 64 (.map (some L.m)) (.string user) false).run Try.prog w = .ok (.bool (hasB S.appr user)) w := hlook _ _ hm hu
  unfold permB
  obtain ⟨ap, hap⟩ : ∃ ap, hasB S.appr user = ap := ⟨_, rfl⟩
  obtain ⟨ia, hia⟩ : ∃ ia, (user.toList == D.au.toList) = ia := ⟨_, rfl⟩
  rw [hap] at hl1 hl0 ⊢
  rw [hia]
  clear hap hm hlook
  by_cases h0 : who = 0
  · subst h0
    go_enter Try.func60, Try.ntmps60
    go_wp2
    go_quiet (fail)
    go_wp2
    go_ret
    exact ⟨rfl, by repeat (first | exact Drawn0.refl _ | apply Drawn0.step)⟩
  rw [if_neg h0]
  have d0 : (who == (0 : Int)) = false := beq_eq_false_iff_ne.mpr h0
  by_cases h1 : who = 1
  · subst h1
    clear d0 h0
    cases ap
    · go_enter Try.func60, Try.ntmps60
      go_wp2
      go_quiet (fail)
      go_wp2
      go_ret
      exact ⟨by simp, by repeat (first | exact Drawn0.refl _ | apply Drawn0.step)⟩
    · go_enter Try.func60, Try.ntmps60
      go_wp2
      go_quiet (fail)
      go_wp2
      go_ret
      exact ⟨by simp, by repeat (first | exact Drawn0.refl _ | apply Drawn0.step)⟩
  rw [if_neg h1]
  have d1 : (who == (1 : Int)) = false := beq_eq_false_iff_ne.mpr h1
  cases ia
  · go_enter Try.func60, Try.ntmps60
    go_wp2
    go_quiet (fail)
    go_wp2
    go_ret
    exact ⟨by simp, by repeat (first | exact Drawn0.refl _ | apply Drawn0.step)⟩
  · go_enter Try.func60, Try.ntmps60
    go_wp2
    go_quiet (fail)
    go_wp2
    go_ret
    exact ⟨by simp, by repeat (first | exact Drawn0.refl _ | apply Drawn0.step)⟩
/-- What find answers, by its number. -/
def findOf (S : FlowS) (id : Int) (user : ByteArray) (who : Int) (sts : List Int) : Int :=
  match docAt S id with
  | none => 1
  | some D => if codeB user = false then 7 else if sts.contains D.st = false then 18 else if permB S D.au who user = true then 0 else 19
/-- What find points to, where it answers r. -/
def findPtr (L : Parts) (id r : Int) : Value := ptrOf (if r = 0 then docOf L id else none)
theorem code_size {a : ByteArray} (h : codeB a = true) : a.size ≤ maxLen := by
  unfold codeB at h
  rw [Bool.and_eq_true, Bool.and_eq_true] at h
  have := of_decide_eq_true h.2.1
  unfold maxLen
  omega
set_option maxHeartbeats 4000000 in
set_option maxRecDepth 100000 in
theorem find_calls (p : Nat) (S : FlowS) (L : Parts) (F : Nat → Prop) (id : Int) (hid : (Lit.int .i64 id).wf = true) (user : ByteArray) (who : Int) (A : Option Addr) (c : Nat) (sts : List Int) (hl : sts.length ≤ 1000) (r : Int) (hr : findOf S id user who sts = r) (w : World) (h : FlwP w F p S L) (hs : (Kd.int .i64).C w A sts.length sts) :
    Calls Try.prog 48 #[.pointer (some ⟨p, 0, none⟩), .int .i64 id, .string user, .int .i64 who, .slice A sts.length c] w fun e w' => e = .returned (.tuple #[findPtr L id r, .int .i64 r]) ∧ Drawn0 w w' := by
  unfold findOf at hr
  rcases doc_cases h id with ⟨h1, h2⟩ | ⟨j, b, D, v, h1, h2, -, -, -, -, -, hD⟩
  · rw [h2] at hr
    have hr : (1 : Int) = r := hr
    subst hr
    go_enter Try.func48, Try.ntmps48
    go_wp2_with (first | (go_at_call 36; refine (doc_none hid h h1).mono ?_; rintro e w' ⟨rfl, he_⟩; obtain rfl := he_.symm))
    go_ret2
    exact ⟨rfl, by repeat (first | exact Drawn0.refl _ | apply Drawn0.step)⟩
  rw [h2] at hr
  have hr : (if codeB user = false then (7 : Int) else if sts.contains D.st = false then 18 else if permB S D.au who user = true then 0 else 19) = r := hr
  cases hc : codeB user
  · rw [hc, if_pos rfl] at hr
    subst hr
    have HC := Aside0.mk hc
    clear hc
    go_enter Try.func48, Try.ntmps48
    go_wp2_with (first | (go_at_call 36; refine (doc_some hid h h1).mono ?_; rintro e w' ⟨rfl, he_⟩; obtain rfl := he_.symm) | (go_at_call 33; refine (code_is HC.out _).mono ?_; rintro e w' ⟨rfl, ⟨nd, rfl⟩⟩))
    go_ret2
    exact ⟨rfl, by repeat (first | exact Drawn0.refl _ | apply Drawn0.step)⟩
  rw [hc, if_neg (by simp)] at hr
  have hu := code_size hc
  have HC := Aside0.mk hc
  clear hc
  obtain ⟨pm, hpm⟩ : ∃ pm, permB S D.au who user = pm := ⟨_, rfl⟩
  rw [hpm] at hr
  have HPM := Aside0.mk hpm
  obtain ⟨ct, hct⟩ : ∃ ct, sts.contains D.st = ct := ⟨_, rfl⟩
  rw [hct] at hr
  have HCT := Aside0.mk hct
  have HP := Aside0.mk h
  have HDC := Aside0.mk hD
  have HS := Aside0.mk hs
  have H1 := Aside0.mk h1
  have HR := Aside0.mk hr
  clear hpm hct h2 hs hD hr
  go_enter Try.func48, Try.ntmps48
  go_wp2_with (first | (go_at_call 36; refine (doc_some hid h h1).mono ?_; rintro e w' ⟨rfl, he_⟩; obtain rfl := he_.symm) | (go_at_call 33; refine (code_is HC.out _).mono ?_; rintro e w' ⟨rfl, ⟨nd, rfl⟩⟩; clear h h1))
  go_loopw [14, 25, 26, 27, 28, 29, 30, 31, 32, 33, 34, 35, 36, 37, 38, 39, 40, 42] (fun _ v25 _ _ _ _ _ _ _ _ _ _ _ _ _ _ _ _ wr => ∃ k : Nat, k ≤ sts.length ∧ v25 = .int .i64 k ∧ Drawn0 w wr ∧ Aside0 (∀ x ∈ sts.take k, x ≠ D.st)) (fun _ v25 _ _ _ _ _ _ _ _ _ _ _ _ _ _ _ _ _ => sts.length - (intOf v25).toNat)
  case atStart => exact ⟨0, Nat.zero_le _, rfl, by repeat (first | exact Drawn0.refl _ | apply Drawn0.step), ⟨fun x hx => by simp at hx⟩⟩
  case round =>
    obtain ⟨k, hk, rfl, ⟨n, rfl⟩, HN⟩ := hrel
    by_cases hlt : k < sts.length
    · obtain ⟨ad, e, q0⟩ := Kd.at_int (Kd.C_drewN HS.out n) (k : Int) (by omega) (by omega)
      subst e
      rw [Int.toNat_natCast] at q0
      have d1 : decide ((k : Int) < (sts.length : Int)) = true := decide_eq_true (by omega)
      have d2 : decide (k < sts.length) = true := decide_eq_true hlt
      have p0 : (0 : Int) ≤ (k : Int) := by omega
      have p1 : (k : Int) < (sts.length : Int) := by omega
      have HK := Aside0.mk (show Go.Proofs.YtbbhichndfbooaaW.PrintWords.rd sts (k : Int) = sts[k] by simp [Go.Proofs.YtbbhichndfbooaaW.PrintWords.rd, hlt])
      have c2 := (blk_cell (blk_drewN HDC.out.blk n) 2).trans rfl
      obtain ⟨s, hs⟩ : ∃ s, Go.Proofs.YtbbhichndfbooaaW.PrintWords.rd sts (k : Int) = s := ⟨_, rfl⟩
      rw [hs] at q0 HK
      clear hs
      by_cases he : D.st = s
      · subst he
        have HT := Aside0.mk (show ct = true by rw [← HCT.out, List.contains_iff_mem, HK.out]; exact List.getElem_mem _)
        cases pm
        · go_wp2_with (first | (go_at_call 60; refine (permitted_calls p b S L F who user hu D v _ (HP.out.drewN _) (HDC.out.move (fun _ hk => hk) rfl (fun _ _ => rfl))).mono ?_; rw [HPM.out]; rintro e w' ⟨rfl, ⟨nd2, rfl⟩⟩))
          go_ret2
          have hr := HR.out
          rw [HT.out] at hr
          have hr : (19 : Int) = r := hr
          exact ⟨by rw [← hr]; rfl, by repeat (first | exact Drawn0.refl _ | apply Drawn0.step)⟩
        · go_wp2_with (first | (go_at_call 60; refine (permitted_calls p b S L F who user hu D v _ (HP.out.drewN _) (HDC.out.move (fun _ hk => hk) rfl (fun _ _ => rfl))).mono ?_; rw [HPM.out]; rintro e w' ⟨rfl, ⟨nd2, rfl⟩⟩))
          go_ret2
          have hr := HR.out
          rw [HT.out] at hr
          have hr : (0 : Int) = r := hr
          exact ⟨by rw [← hr]; unfold findPtr; rw [if_pos rfl, H1.out]; rfl, by repeat (first | exact Drawn0.refl _ | apply Drawn0.step)⟩
      · have hb : (D.st != s) = true := bne_iff_ne.mpr he
        have HE := Aside0.mk he
        clear he
        go_wp2
        go_roundw
        case rel =>
          refine ⟨k + 1, by omega, by go_num, by repeat (first | exact Drawn0.refl _ | apply Drawn0.step), ⟨fun x hx => ?_⟩⟩
          rw [List.take_add_one, List.getElem?_eq_getElem hlt, List.mem_append] at hx
          rcases hx with hx | hx
          · exact HN.out x hx
          · simp at hx
            rw [hx, ← HK.out]
            exact fun e => HE.out e.symm
        case measure => simp [intOf]; omega
    · obtain rfl : k = sts.length := by omega
      have d1 : decide ((sts.length : Int) < (sts.length : Int)) = false := decide_eq_false (by omega)
      go_wp2
      go_ret2
      have hf : ct = false := by
        rw [← HCT.out, ← Bool.not_eq_true, List.contains_iff_mem]
        intro hm
        exact HN.out _ (by rw [List.take_length]; exact hm) rfl
      have hr := HR.out
      rw [hf] at hr
      have hr : (18 : Int) = r := hr
      exact ⟨by rw [← hr]; rfl, by repeat (first | exact Drawn0.refl _ | apply Drawn0.step)⟩
/-- The state that settle lays. -/
def settled (n : Nat) (need : Int) : Int := if (n : Int) ≥ need then 3 else 2
set_option maxHeartbeats 4000000 in
set_option maxRecDepth 100000 in
theorem settle_calls (b : Nat) (x y s : Value) (A : Option Addr) (n c : Nat) (need : Int) (w : World) (h : w.heap[b]? = some (.cells #[x, y, s, .slice A n c] 75 (0, 0))) :
    Calls Try.prog 49 #[.pointer (some ⟨b, 0, none⟩), .int .i64 need] w fun e w' => e = .returned (.tuple #[]) ∧ w'.heap[b]? = some (.cells #[x, y, .int .i64 (settled n need), .slice A n c] 75 (0, 0)) ∧ But (fun k => k = b) w w' := by
  have c2 := (blk_cell h 2).trans rfl
  have f2 := blk_frozen h 2
  have H := Aside0.mk h
  clear h
  go_enter Try.func49, Try.ntmps49
  go_upto_region 1 with (fail)
  refine with_world (P := fun x => Code.wp _ _ _ _ x) _ ?_
  intro w1 hw1
  have H1 := Aside0.mk (show w1.heap[b]? = some (.cells #[x, y, .int .i64 2, .slice A n c] 75 (0, 0)) from by rw [hw1]; exact blk_put H.out 2 _ rfl)
  have B1 := Aside0.mk (show But (fun k => k = b) w w1 from by rw [hw1]; exact (But.refl (fun k => k = b) w).setCell (by exact rfl) _)
  clear hw1 c2 f2 H
  have c3 := (blk_cell H1.out 3).trans rfl
  have c2 := (blk_cell H1.out 2).trans rfl
  have f2 := blk_frozen H1.out 2
  by_cases hn : (n : Int) ≥ need
  · have hs := Aside0.mk (show settled n need = 3 from if_pos hn)
    have d : decide (need ≤ (n : Int)) = true := decide_eq_true hn
    clear hn
    go_wp2
    go_end0
    rw [hs.out]
    exact ⟨rfl, blk_put H1.out 2 _ rfl, B1.out.setCell (by exact rfl) _⟩
  · have hs := Aside0.mk (show settled n need = 2 from if_neg hn)
    have d : decide (need ≤ (n : Int)) = false := decide_eq_false hn
    clear hn
    go_wp2
    go_end0
    rw [hs.out]
    exact ⟨rfl, H1.out, B1.out⟩
end Go.Proofs.Ytbbhichndfbooaa.P
