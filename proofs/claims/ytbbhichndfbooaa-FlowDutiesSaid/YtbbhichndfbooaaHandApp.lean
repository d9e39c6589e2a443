/- The contract of Approve. -/
import Derived.Test.YtbbhichndfbooaaHandSub
namespace Go.Proofs.Ytbbhichndfbooaa.P
open Go.RowKit Go.Proofs.YtbbhichndfbooaaW.PrintWords Go.Proofs.YtbbhichndfbooaaW.PrintLast Go.Proofs.YtbbhichndfbooaaW.PrintMore Go.Maps Go.ChangeShapes Go.WideShapes Go.WideMaps
set_option linter.unusedVariables false
set_option linter.unusedSimpArgs false
def approveOf (S : FlowS) (id : Int) (user : ByteArray) : Int × FlowS :=
  if findOf S id user 1 [2] = 0 then (if hasB (docD S id).ap user = true then (8, S) else (0, actedS S 3 id user { docD S id with st := settled ((docD S id).ap.length + 1) (needOf S.steps (docD S id).vo).1, ap := (docD S id).ap ++ [user] })) else (findOf S id user 1 [2], S)
theorem hasB_false {l : List ByteArray} {s : ByteArray} (h : hasB l s = false) {k : Nat} (hk : k < l.length) : (l[k].toList == s.toList) = false := by
  unfold hasB at h
  rw [List.any_eq_false] at h
  have := h _ (List.getElem_mem hk)
  simpa using this
theorem hasB_true {l : List ByteArray} {s : ByteArray} (h : hasB l s = true) : ∃ k, ∃ hk : k < l.length, (l[k].toList == s.toList) = true := by
  unfold hasB at h
  rw [List.any_eq_true] at h
  obtain ⟨x, hx, h⟩ := h
  obtain ⟨k, hk, rfl⟩ := List.mem_iff_getElem.1 hx
  exact ⟨k, hk, h⟩
set_option maxHeartbeats 8000000 in
set_option maxRecDepth 100000 in
theorem approve_calls (p : Nat) (S : FlowS) (F : Nat → Prop) (id : Int) (hid : (Lit.int .i64 id).wf = true) (user : ByteArray) (w : World) (h : Flw w F p S) (hn : S.acts.length ≤ 1000000) (ha : (docD S id).ap.length ≤ 1000000) :
    Calls Try.prog 30 #[.pointer (some ⟨p, 0, none⟩), .int .i64 id, .string user] w fun e w' => e = .returned (.int .i64 (approveOf S id user).1) ∧ After F w w' p (approveOf S id user).2 := by
  have HFl := Aside0.mk h
  obtain ⟨L, h⟩ := h
  have HP := Aside0.mk h
  obtain ⟨q, hq⟩ : ∃ q, approveOf S id user = q := ⟨_, rfl⟩
  rw [hq]
  have HQ := Aside0.mk hq
  clear hq
  obtain ⟨r, hr⟩ : ∃ r, findOf S id user 1 [2] = r := ⟨_, rfl⟩
  by_cases h0 : r = 0
  · subst h0
    obtain ⟨b, v, -, hp, a1, a2, a3, hD⟩ := find_there h hr
    obtain ⟨D, hDe⟩ : ∃ D, docD S id = D := ⟨_, rfl⟩
    rw [hDe] at a2 hD ha
    have HDE := Aside0.mk hDe
    obtain ⟨Av, cv, hv⟩ := Kd.R_slice hD.row
    subst hv
    have HA1 := Aside0.mk a1
    have HA2 := Aside0.mk a2
    have HA3 := Aside0.mk a3
    have HD := Aside0.mk hD
    have HPT := Aside0.mk hp
    have HR := Aside0.mk hr
    clear h hr hp a1 a2 a3 hD hDe
    obtain ⟨⟨nn, ok⟩, hne⟩ : ∃ q, needOf S.steps D.vo = q := ⟨_, rfl⟩
    have HN := Aside0.mk hne
    clear hne
    obtain ⟨hb, hhb⟩ : ∃ hb, hasB D.ap user = hb := ⟨_, rfl⟩
    have HHB := Aside0.mk hhb
    clear hhb
    go_enter Try.func30, Try.ntmps30
    go_wp2_with (first | (go_at_call 48; refine (find_calls p S L F id hid user 1 (some ⟨w.heap.size, 0, none⟩) 1 [2] (by decide) 0 HR.out _ (HP.out.alloc _) (lit_C w [2] (by decide))).mono ?_; rw [HPT.out]; rintro e w1 ⟨rfl, hdr⟩; have HB1 := Aside0.mk (below_then (below_alloc (Below.refl _ w) _) (by simp) hdr.below); have c3 := (blk_cell (blk_below HD.out.blk HB1.out) 3).trans rfl; clear hdr))
    clear c3
    go_loopw [9, 28, 29, 30, 31, 32, 33, 34, 35] (fun _ v28 _ _ _ _ _ _ _ wr => ∃ k : Nat, k ≤ D.ap.length ∧ v28 = .int .i64 k ∧ Aside0 (Below w.heap.size w wr) ∧ Aside0 (∀ j (hj : j < D.ap.length), j < k → (D.ap[j].toList == user.toList) = false)) (fun _ v28 _ _ _ _ _ _ _ _ => D.ap.length - (intOf v28).toNat)
    case atStart => exact ⟨0, Nat.zero_le _, rfl, HB1, ⟨fun j _ hj => by omega⟩⟩
    case round =>
      obtain ⟨k, hk, rfl, HB, HJ⟩ := hrel
      by_cases hlt : k < D.ap.length
      · obtain ⟨ad, e, q0⟩ := Kd.at_string (Kd.C_below (Kd.R_reads' HD.out.row).2.2 HB.out) (k : Int) (by omega) (by omega)
        subst e
        rw [Int.toNat_natCast] at q0
        have d1 : decide ((k : Int) < (D.ap.length : Int)) = true := decide_eq_true (by omega)
        have d2 : decide (k < D.ap.length) = true := decide_eq_true hlt
        have p0 : (0 : Int) ≤ (k : Int) := by omega
        have p1 : (k : Int) < (D.ap.length : Int) := by omega
        have hsk : rdOf ByteArray.empty D.ap (k : Int) = D.ap[k] := by simp [rdOf, hlt]
        obtain ⟨s, hs⟩ : ∃ s, rdOf ByteArray.empty D.ap (k : Int) = s := ⟨_, rfl⟩
        rw [hs] at q0 hsk
        have HSK := Aside0.mk hsk
        clear hs hsk
        obtain ⟨eb, heb⟩ : ∃ eb, (s.toList == user.toList) = eb := ⟨_, rfl⟩
        cases eb
        · have HEB := Aside0.mk heb
          go_wp2
          go_roundw
          case rel =>
            refine ⟨k + 1, by omega, by go_num, HB, ⟨fun j hj hjk => ?_⟩⟩
            by_cases e : j = k
            · subst e
              rw [← HSK.out]
              exact HEB.out
            · exact HJ.out j hj (by omega)
          case measure => simp [intOf]; omega
        · have HBT := Aside0.mk (show hb = true by
            rw [← HHB.out]
            unfold hasB
            rw [List.any_eq_true]
            exact ⟨D.ap[k], List.getElem_mem hlt, by rw [← HSK.out]; exact heb⟩)
          go_wp2
          go_ret
          have hq : q = (8, S) := by
            rw [← HQ.out]
            unfold approveOf
            rw [if_pos HR.out, HDE.out, HHB.out, HBT.out, if_pos rfl]
          rw [hq]
          exact ⟨rfl, F, HFl.out.below HB.out, (Stp.refl F w).below HB.out⟩
      · obtain rfl : k = D.ap.length := by omega
        have d1 : decide ((D.ap.length : Int) < (D.ap.length : Int)) = false := decide_eq_false (by omega)
        have HBF := Aside0.mk (show hb = false by
          rw [← HHB.out]
          cases hc : hasB D.ap user
          · rfl
          · obtain ⟨x, hx, hxe⟩ := hasB_true hc
            rw [HJ.out x hx hx] at hxe
            cases hxe)
        have HDr := Aside0.mk (blk_below HD.out.blk HB.out)
        have HRr := Aside0.mk (Kd.R_below HD.out.row HB.out)
        have HPr := Aside0.mk (HP.out.below (fun k hk => HB.out.block k (HP.out.lt k hk)))
        have c3 := (blk_cell HDr.out 3).trans rfl
        have hna := hn
        clear hn
        go_upto_region 11 with (first | ((with_reducible refine gate_builtin (b := .append) (xs := #[.tmp 40, .tmp 42]) rfl ?_); at_builtin; refine Kd.R_append Kd.string (w0 := wr) 0 rfl (.tmp 40) (.tmp 42) 23 9 (.string ⟨#[]⟩) 16 rfl Try.underlying23 info9 rfl (by decide) (by omega) (.slice Av D.ap.length cv) D.ap user [.string user] (fun k => F k ∨ wr.heap.size ≤ k) (fun _ => False) rfl rfl ?aP (fun _ hk => hk.elim) ?aF ?aO ?aB ?aS ?aL ?_; (case aP => exact rfl); (case aF => exact fun k hk => .inr hk); (case aO => exact Kd.R_mono HRr.out (fun k hk => .inl hk)); (case aB => exact Below.refl _ _); (case aS => exact Nat.zero_le _); (case aL => omega); intro v1 w2 ho hbl hg hat; obtain ⟨A1, c1, rfl⟩ := Kd.R_slice ho; have HO := Aside0.mk ho; have HG := Aside0.mk hg; have HAT := Aside0.mk hat; have HB2 := Aside0.mk (blk_grown HDr.out hg (fun e => typed_ne (Kd.R_typed HRr.out _ e.symm) ⟨_, HDr.out⟩ (by decide) rfl)); have f3' := blk_frozen HB2.out 3; have c3' := (blk_cell HB2.out 3).trans rfl; clear c3 ho hbl hg hat))
        refine with_world (P := fun x => Code.wp _ _ _ _ x) _ ?_
        intro w3 hw3
        have h := HPr.out
        have hg := HG.out
        have hsz : wr.heap.size ≤ w2.heap.size := hg.size
        have hst : w3.heap.size = w2.heap.size := by rw [hw3]; simp [World.setCell]
        have h0 := HO.out
        rw [show (D.ap ++ [user]).length = D.ap.length + 1 by simp] at h0
        obtain ⟨S3, hS3⟩ : ∃ S3 : FlowS, S3 = { S with docs := S.docs.set (id - 1).toNat { D with ap := D.ap ++ [user] } } := ⟨_, rfl⟩
        obtain ⟨L3, hL3⟩ : ∃ L3 : Parts, L3 = { L with vp := L.vp.set (id - 1).toNat (.slice A1 (D.ap.length + 1) c1) } := ⟨_, rfl⟩
        have hb3 : w3.heap[b]? = some (.cells #[.string D.au, .int .i64 D.vo, .int .i64 D.st, .slice A1 (D.ap.length + 1) c1] 75 (0, 0)) := by rw [hw3]; exact blk_put HB2.out 3 _ rfl
        have HF3 := Aside0.mk (show FlwP w3 (fun k => (F k ∨ wr.heap.size ≤ k) ∧ k < w2.heap.size) p S3 L3 from by
          rw [hS3, hL3]
          refine h.turned_doc HA1.out HA2.out HA3.out (fun k hk => ⟨.inl hk, Nat.lt_of_lt_of_le (h.lt k hk) hsz⟩) (fun k hk hkb hv => ?_) ⟨hb3, ⟨.inl HD.out.own, blk_lt HB2.out⟩, ?_⟩ (fun k hk => ?_) (fun k hk => by rw [hst]; exact hk.2)
          · rw [hw3, Below.heap_setCell _ _ _ _ hkb]
            exact hg.block k (h.lt k hk) (fun e => hv e.symm)
          · rw [hw3]
            exact Kd.R_mono (Kd.R_far (Kd.R_types (Kd.R_bound h0) HB2.out (by decide)) (fun k hk => hk.2) _) (fun k hk => ⟨hk.1.1, hk.1.2.2.1⟩)
          · rcases HAT.out with e | ⟨x, e, hx⟩
            · rw [show (D.ap ++ [user]).length = D.ap.length + 1 by simp] at e
              exact .inl (e.symm.trans hk)
            · refine .inr (fun hF => ?_)
              have := h.lt k hF
              rw [show (Value.slice A1 (D.ap.length + 1) c1).ownBlock = some x by simpa using e] at hk
              cases hk
              omega)
        have HS3 := Aside0.mk (show Stp F (fun k => (F k ∨ wr.heap.size ≤ k) ∧ k < w2.heap.size) w w3 from by
          refine ((Stp.refl F w).below HB.out).trans ⟨?_, fun k hk => hk.1⟩
          rw [hw3]
          exact (But.of_grown hg (fun k hk => HD.out.row.1 k hk)).setCell (by exact HD.out.own) _)
        have hj := get_lt HA2.out
        have HA13 := Aside0.mk (show L3.ds[(id - 1).toNat]? = some b from by rw [hL3]; exact HA1.out)
        have HA23 := Aside0.mk (show S3.docs[(id - 1).toNat]? = some { D with ap := D.ap ++ [user] } from by rw [hS3]; exact List.getElem?_set_self hj)
        have HA33 := Aside0.mk (show L3.vp[(id - 1).toNat]? = some (.slice A1 (D.ap.length + 1) c1) from by rw [hL3]; exact List.getElem?_set_self (get_lt HA3.out))
        have HN3 := Aside0.mk (show needOf S3.steps D.vo = (nn, ok) from by rw [hS3]; exact HN.out)
        have hn3 : S3.acts.length ≤ 1000000 := by rw [hS3]; exact hna
        have HSE := Aside0.mk hS3
        have HBB3 := Aside0.mk hb3
        have c1' := (blk_cell hb3 1).trans rfl
        clear hw3 h hg hsz hst h0 hS3 hL3 hb3 hj HO HG HAT HB2 HPr HRr HDr HA1 HA2 HA3 f3' c3'
        go_wp2_with (first | (go_at_call 13; refine (need_is HN3.out ⟨L3, HF3.out⟩).mono ?_; rintro e w4 ⟨rfl, hbl⟩; have HB4 := Aside0.mk hbl; clear hbl c1') | (go_at_call 49; refine (settle_calls b _ _ _ A1 (D.ap.length + 1) c1 nn _ (blk_below HBB3.out HB4.out)).mono ?_; rintro e w5 ⟨rfl, h5, hb5⟩; have HT := Aside0.mk (turned_state (HF3.out.below (fun k hk => HB4.out.block k (HF3.out.lt k hk))) HA13.out HA23.out HA33.out h5 hb5); clear h5 hb5) | (go_at_call 47; refine (note_calls p _ _ _ 3 id user _ HT.out.1 hn3).mono ?_; rintro e w6 ⟨rfl, ha⟩; have HAF := Aside0.mk ha; clear ha))
        go_ret
        have hq : q = (0, actedS S 3 id user { D with st := settled (D.ap.length + 1) nn, ap := D.ap ++ [user] }) := by
          rw [← HQ.out]
          unfold approveOf
          rw [if_pos HR.out, HDE.out, HHB.out, HBF.out, HN.out, if_neg (by simp)]
        rw [hq]
        refine ⟨rfl, ?_⟩
        have hfin := After.then ((HS3.out.below HB4.out).trans HT.out.2) HAF.out
        rw [HSE.out] at hfin
        have hss : (S.docs.set (id - 1).toNat { D with ap := D.ap ++ [user] }).set (id - 1).toNat { D with ap := D.ap ++ [user], st := settled (D.ap.length + 1) nn } = S.docs.set (id - 1).toNat { D with st := settled (D.ap.length + 1) nn, ap := D.ap ++ [user] }   := by rw [List.set_set]
        unfold actedS
        rw [← hss]
        exact hfin
  · have hq : q = (r, S) := by
      rw [← HQ.out]
      unfold approveOf
      rw [hr, if_neg h0]
    rw [hq]
    clear hq HQ
    have hp : findPtr L id r = .pointer none := by unfold findPtr; rw [if_neg h0]; rfl
    have hb : (r != 0) = true := bne_iff_ne.mpr h0
    have HPT := Aside0.mk hp
    have HR := Aside0.mk hr
    clear h hr hp h0
    go_enter Try.func30, Try.ntmps30
    go_wp2_with (first | (go_at_call 48; refine (find_calls p S L F id hid user 1 (some ⟨w.heap.size, 0, none⟩) 1 [2] (by decide) r HR.out _ (HP.out.alloc _) (lit_C w [2] (by decide))).mono ?_; rw [HPT.out]; rintro e w' ⟨rfl, ⟨nd, rfl⟩⟩))
    go_ret
    exact ⟨rfl, after_alloc (After.drew (HFl.out.alloc _) _)⟩
end Go.Proofs.Ytbbhichndfbooaa.P
