/- Texts of mine and of the print, joined: SpecF, Px2, SpecL, Px8, Px9, HandRnew, SpecRn, HandRdraft, HandRperm, HandRnext, Px13, HandRact, HandApart, Px1, Px15, HandRsame, HandFlowNew, SpecD, SpecPl, SpecE, Px14. -/
import Derived.Test.YtbbhichndfbooaaPc
import Derived.Test.YtbbhichndfbooaaPb
import Derived.BigRegion
namespace Go.Proofs.Ytbbhichndfbooaa.P
open Go.RowKit Go.Proofs.YtbbhichndfbooaaW.PrintWords Go.Proofs.YtbbhichndfbooaaW.PrintLast
set_option linter.unusedVariables false
set_option linter.unusedSimpArgs false
/-- An act's outcome: nothing has changed, or the document and one act more. -/
def Res (S : FlowS) (id : Int) (q : Int × FlowS) : Prop := (q.1 ≠ 0 ∧ q.2 = S) ∨ (q.1 = 0 ∧ ∃ (k : Int) (user : ByteArray) (D E : DocS), docAt S id = some D ∧ q.2 = actedS S k id user E ∧ E.ap.length ≤ D.ap.length + 1)
theorem docD_of {S : FlowS} {id : Int} {D : DocS} (h : docAt S id = some D) : docD S id = D := by unfold docD; rw [h]; rfl
theorem res_move (S : FlowS) (kind id : Int) (user : ByteArray) (who st : Int) (sts : List Int) : Res S id (moveOf S kind id user who st sts) := by
  unfold moveOf
  by_cases h : findOf S id user who sts = 0
  · rw [if_pos h]
    obtain ⟨D, hd, -⟩ := find_zero h
    rw [docD_of hd]
    exact .inr ⟨rfl, kind, user, D, _, hd, rfl, by show D.ap.length ≤ _; omega⟩
  · rw [if_neg h]
    exact .inl ⟨h, rfl⟩
theorem res_submit (S : FlowS) (id : Int) (user : ByteArray) : Res S id (submitOf S id user) := by
  unfold submitOf
  by_cases h : findOf S id user 0 [1] = 0
  · rw [if_pos h]
    obtain ⟨D, hd, -⟩ := find_zero h
    rw [docD_of hd]
    by_cases h2 : (needOf S.steps D.vo).2 = true
    · rw [if_pos h2]
      exact .inr ⟨rfl, 2, user, D, _, hd, rfl, by show D.ap.length ≤ _; omega⟩
    · rw [if_neg h2]
      exact .inl ⟨show (3 : Int) ≠ 0 by decide, rfl⟩
  · rw [if_neg h]
    exact .inl ⟨h, rfl⟩
theorem res_approve (S : FlowS) (id : Int) (user : ByteArray) : Res S id (approveOf S id user) := by
  unfold approveOf
  by_cases h : findOf S id user 1 [2] = 0
  · rw [if_pos h]
    obtain ⟨D, hd, -⟩ := find_zero h
    rw [docD_of hd]
    by_cases h2 : hasB D.ap user = true
    · rw [if_pos h2]
      exact .inl ⟨show (8 : Int) ≠ 0 by decide, rfl⟩
    · rw [if_neg h2]
      exact .inr ⟨rfl, 3, user, D, _, hd, rfl, by show (D.ap ++ [user]).length ≤ _; simp⟩
  · rw [if_neg h]
    exact .inl ⟨h, rfl⟩
theorem res_redraft (S : FlowS) (id : Int) (user : ByteArray) : Res S id (redraftOf S id user) := by
  unfold redraftOf
  by_cases h : findOf S id user 0 [4] = 0
  · rw [if_pos h]
    obtain ⟨D, hd, -⟩ := find_zero h
    rw [docD_of hd]
    exact .inr ⟨rfl, 5, user, D, _, hd, rfl, by show ([] : List ByteArray).length ≤ _; simp⟩
  · rw [if_neg h]
    exact .inl ⟨h, rfl⟩
theorem res_act (S : FlowS) (kind id : Int) (user : ByteArray) : Res S id (actOf S kind id user) := by
  unfold actOf
  split
  · exact res_submit S id user
  split
  · exact res_approve S id user
  split
  · exact res_move S 4 id user 1 4 [2]
  split
  · exact res_redraft S id user
  split
  · exact res_move S 6 id user 0 6 [1, 4]
  · exact res_move S 7 id user 2 5 [3]
/-- How much a workflow holds. -/
structure Bnd (S : FlowS) (n : Nat) : Prop where
  acts : S.acts.length ≤ n
  docs : ∀ D ∈ S.docs, D.ap.length ≤ n
theorem docAt_mem {S : FlowS} {id : Int} {D : DocS} (h : docAt S id = some D) : D ∈ S.docs := by
  unfold docAt at h
  split at h
  · cases h
  split at h
  · cases h
  · exact List.mem_of_getElem? h
theorem Bnd.doc {S : FlowS} {n : Nat} (h : Bnd S n) (id : Int) : (docD S id).ap.length ≤ n := by
  unfold docD
  cases hd : docAt S id with
  | none => exact Nat.zero_le _
  | some D => exact h.docs D (docAt_mem hd)
theorem docAt_other {S : FlowS} {k id : Int} {user : ByteArray} {D E : DocS} (hd : docAt S id = some D) {x : Int} (hx : x ≠ id) : docAt (actedS S k id user E) x = docAt S x := by
  unfold docAt at hd ⊢
  have hl : (actedS S k id user E).docs.length = S.docs.length := by
    show (S.docs.set _ _).length = _
    rw [List.length_set]
  rw [hl]
  by_cases h1 : x < 1
  · rw [if_pos h1, if_pos h1]
  rw [if_neg h1, if_neg h1]
  by_cases h2 : x > S.docs.length
  · rw [if_pos h2, if_pos h2]
  rw [if_neg h2, if_neg h2]
  by_cases h3 : id < 1
  · rw [if_pos h3] at hd; cases hd
  show (S.docs.set (id - 1).toNat E)[(x - 1).toNat]? = _
  rw [List.getElem?_set_ne (by omega)]
theorem docAt_draft {S : FlowS} {D : DocS} {A : List S55} {x : Int} (hx : x ≠ (S.docs.length : Int) + 1) : docAt { S with docs := S.docs ++ [D], acts := A } x = docAt S x := by
  unfold docAt
  have hl : ({ S with docs := S.docs ++ [D], acts := A } : FlowS).docs.length = S.docs.length + 1 := by
    show (S.docs ++ [D]).length = _
    simp
  rw [hl]
  by_cases h1 : x < 1
  · rw [if_pos h1, if_pos h1]
  rw [if_neg h1, if_neg h1]
  by_cases h2 : x > S.docs.length
  · rw [if_pos h2, if_pos (by omega)]
  rw [if_neg h2, if_neg (by omega)]
  show (S.docs ++ [D])[(x - 1).toNat]? = _
  rw [List.getElem?_append_left (by omega)]
/-- A call: nothing has changed, or one document and one act more. -/
theorem play_step {S S' : FlowS} {o : S46} {i e : Int} (hq : playOf S o = (i, e, S')) {n : Nat} (hb : Bnd S n) :
    Bnd S' (n + 1) ∧ ((e ≠ 0 ∧ S' = S) ∨ (e = 0 ∧ S'.acts.length = S.acts.length + 1 ∧ ∀ x, x ≠ (if o.f0 = 1 then i else o.f1) → stOf S' x = stOf S x)) := by
  unfold playOf at hq
  by_cases hk : o.f0 = 1
  · rw [if_pos hk] at hq ⊢
    unfold draftOf at hq
    have bad : ∀ z : Int, z ≠ 0 → ((0 : Int), z, S) = (i, e, S') → Bnd S' (n + 1) ∧ ((e ≠ 0 ∧ S' = S) ∨ (e = 0 ∧ S'.acts.length = S.acts.length + 1 ∧ ∀ x, x ≠ i → stOf S' x = stOf S x)) := by
      intro z hz h
      obtain ⟨rfl, h2⟩ := Prod.mk.inj h
      obtain ⟨rfl, rfl⟩ := Prod.mk.inj h2
      exact ⟨⟨Nat.le_succ_of_le hb.acts, fun D hD => Nat.le_succ_of_le (hb.docs D hD)⟩, .inl ⟨hz, rfl⟩⟩
    by_cases h1 : codeB o.f2 = false
    · rw [if_pos h1] at hq; exact bad 7 (by decide) hq
    rw [if_neg h1] at hq
    by_cases h2 : o.f3 < 0
    · rw [if_pos h2] at hq; exact bad 2 (by decide) hq
    rw [if_neg h2] at hq
    by_cases h3 : 10000 ≤ S.docs.length
    · rw [if_pos h3] at hq; exact bad 9 (by decide) hq
    rw [if_neg h3] at hq
    obtain ⟨rfl, h2⟩ := Prod.mk.inj hq
    obtain ⟨rfl, rfl⟩ := Prod.mk.inj h2
    have ha := hb.acts
    refine ⟨⟨?_, fun D hD => ?_⟩, .inr ⟨rfl, ?_, fun x hx => ?_⟩⟩
    · show (S.acts ++ [_]).length ≤ _
      simp
      omega
    · have hD : D ∈ S.docs ++ [_] := hD
      rw [List.mem_append] at hD
      rcases hD with hD | hD
      · exact Nat.le_succ_of_le (hb.docs D hD)
      · rw [List.mem_singleton] at hD
        rw [hD]
        exact Nat.zero_le _
    · show (S.acts ++ [_]).length = _
      simp
    · unfold stOf
      rw [docAt_draft hx]
  · rw [if_neg hk] at hq ⊢
    obtain ⟨rfl, h2⟩ := Prod.mk.inj hq
    obtain ⟨he, hS⟩ := Prod.mk.inj h2
    rcases res_act S o.f0 o.f1 o.f2 with ⟨h3, h4⟩ | ⟨h3, k, user, D, E, hd, h4, h5⟩
    · rw [he] at h3
      rw [hS] at h4
      subst h4
      exact ⟨⟨Nat.le_succ_of_le hb.acts, fun D hD => Nat.le_succ_of_le (hb.docs D hD)⟩, .inl ⟨h3, rfl⟩⟩
    · rw [he] at h3
      rw [hS] at h4
      subst h4
      have ha := hb.acts
      refine ⟨⟨?_, fun X hX => ?_⟩, .inr ⟨h3, ?_, fun x hx => ?_⟩⟩
      · show (S.acts ++ [_]).length ≤ _
        simp
        omega
      · have hX : X ∈ S.docs.set (o.f1 - 1).toNat E := hX
        rcases List.mem_or_eq_of_mem_set hX with hX | hX
        · exact Nat.le_succ_of_le (hb.docs X hX)
        · rw [hX]
          have := hb.docs D (docAt_mem hd)
          omega
      · show (S.acts ++ [_]).length = _
        simp
      · unfold stOf
        rw [docAt_other hd hx]
end Go.Proofs.Ytbbhichndfbooaa.P
namespace Go.Proofs.Ytbbhichndfbooaa.P
open Go.RowKit Go.Proofs.YtbbhichndfbooaaW.PrintWords Go.Proofs.YtbbhichndfbooaaW.PrintLast Go.Proofs.YtbbhichndfbooaaW.PrintMore
attribute [local go_sem] max2_int min2_int max_two min_two max_three min_three max_four min_four   -- for this text's walks alone
set_option linter.unusedVariables false
set_option linter.unusedSimpArgs false
/-! ### accountinglaw15_light: function 9 -/
mutual
def accountinglaw15_light.j0 : Nat → List (S46) → Bool → List (S60) → List ByteArray → Option (Bool)
  | 0, _, _, _, _ => none
  | k + 1, x1, x21, x102000, x102001 => if x21 = true then (some false) else (accountinglaw15_light.l0 k x1 0 x102000 x102001)
def accountinglaw15_light.l0 : Nat → List (S46) → Int → List (S60) → List ByteArray → Option (Bool)
  | 0, _, _, _, _ => none
  | k + 1, x1, x5, x102000, x102001 => if x5 < (x102001.length : Int) then (if 0 ≤ x5 then (if ((rdOf ByteArray.empty x102001 x5).size : Int) > 100 then (some false) else (accountinglaw15_light.l0 k x1 (wrap64 (x5 + 1)) x102000 x102001)) else (none)) else (accountinglaw15_light.l1 k x1 0)
def accountinglaw15_light.l1 : Nat → List (S46) → Int → Option (Bool)
  | 0, _, _ => none
  | k + 1, x1, x6 => if x6 < (x1.length : Int) then (if 0 ≤ x6 then (if (((rd_T46 x1 x6).f2).size : Int) > 100 then (some false) else (accountinglaw15_light.l1 k x1 (wrap64 (x6 + 1)))) else (none)) else (some true)
end
def accountinglaw15_light.f (k : Nat) (l0_0 : List (S60)) (l0_1 : List ByteArray) (l1 : List (S46)) : Option (Bool) := if (l0_0.length : Int) > 250 then (accountinglaw15_light.j0 k l1 true l0_0 l0_1) else (if (l0_1.length : Int) > 250 then (accountinglaw15_light.j0 k l1 true l0_0 l0_1) else (accountinglaw15_light.j0 k l1 (decide ((l1.length : Int) > 40)) l0_0 l0_1))
theorem accountinglaw15_light.mono_l : ∀ k, (∀ y0 y1 y2 y3, LeO (accountinglaw15_light.j0 k y0 y1 y2 y3) (accountinglaw15_light.j0 (k + 1) y0 y1 y2 y3)) ∧ (∀ y0 y1 y2 y3, LeO (accountinglaw15_light.l0 k y0 y1 y2 y3) (accountinglaw15_light.l0 (k + 1) y0 y1 y2 y3)) ∧ (∀ y0 y1, LeO (accountinglaw15_light.l1 k y0 y1) (accountinglaw15_light.l1 (k + 1) y0 y1))
  | 0 => ⟨fun _ _ _ _ r h => by simp [accountinglaw15_light.j0] at h, fun _ _ _ _ r h => by simp [accountinglaw15_light.l0] at h, fun _ _ r h => by simp [accountinglaw15_light.l1] at h⟩
  | k + 1 => by
    obtain ⟨ih0, ih1, ih2⟩ := accountinglaw15_light.mono_l k
    refine ⟨?_, ?_, ?_⟩
    · intro y0 y1 y2 y3
      unfold accountinglaw15_light.j0
      repeat' first
      | (with_reducible exact ih0 _ _ _ _)
      | (with_reducible exact ih1 _ _ _ _)
      | (with_reducible exact ih2 _ _)
      | (with_reducible exact LeO.refl _)
      | (with_reducible exact LeO.none _)
      | (with_reducible refine LeO.ite ?_ ?_)
      | (with_reducible refine LeO.bind ?_ (fun _ => ?_))
      | exact ih0 _ _ _ _
      | exact ih1 _ _ _ _
      | exact ih2 _ _
      | exact LeO.none _
      | refine LeO.ite ?_ ?_
      | refine LeO.bind ?_ (fun _ => ?_)
    · intro y0 y1 y2 y3
      unfold accountinglaw15_light.l0
      repeat' first
      | (with_reducible exact ih0 _ _ _ _)
      | (with_reducible exact ih1 _ _ _ _)
      | (with_reducible exact ih2 _ _)
      | (with_reducible exact LeO.refl _)
      | (with_reducible exact LeO.none _)
      | (with_reducible refine LeO.ite ?_ ?_)
      | (with_reducible refine LeO.bind ?_ (fun _ => ?_))
      | exact ih0 _ _ _ _
      | exact ih1 _ _ _ _
      | exact ih2 _ _
      | exact LeO.none _
      | refine LeO.ite ?_ ?_
      | refine LeO.bind ?_ (fun _ => ?_)
    · intro y0 y1
      unfold accountinglaw15_light.l1
      repeat' first
      | (with_reducible exact ih0 _ _ _ _)
      | (with_reducible exact ih1 _ _ _ _)
      | (with_reducible exact ih2 _ _)
      | (with_reducible exact LeO.refl _)
      | (with_reducible exact LeO.none _)
      | (with_reducible refine LeO.ite ?_ ?_)
      | (with_reducible refine LeO.bind ?_ (fun _ => ?_))
      | exact ih0 _ _ _ _
      | exact ih1 _ _ _ _
      | exact ih2 _ _
      | exact LeO.none _
      | refine LeO.ite ?_ ?_
      | refine LeO.bind ?_ (fun _ => ?_)
theorem accountinglaw15_light.mono : ∀ a0 a1 a2 k, LeO (accountinglaw15_light.f k a0 a1 a2) (accountinglaw15_light.f (k + 1) a0 a1 a2) := by
  intro a0 a1 a2 k
  obtain ⟨ih0, ih1, ih2⟩ := accountinglaw15_light.mono_l k
  unfold accountinglaw15_light.f
  repeat' first
      | (with_reducible exact ih0 _ _ _ _)
      | (with_reducible exact ih1 _ _ _ _)
      | (with_reducible exact ih2 _ _)
      | (with_reducible exact LeO.refl _)
      | (with_reducible exact LeO.none _)
      | (with_reducible refine LeO.ite ?_ ?_)
      | (with_reducible refine LeO.bind ?_ (fun _ => ?_))
      | exact ih0 _ _ _ _
      | exact ih1 _ _ _ _
      | exact ih2 _ _
      | exact LeO.none _
      | refine LeO.ite ?_ ?_
      | refine LeO.bind ?_ (fun _ => ?_)
set_option maxHeartbeats 8000000 in
set_option maxRecDepth 100000 in
theorem accountinglaw15_light.calls (k : Nat) (A0_0 : Option Addr) (c0_0 : Nat) (l0_0 : List (S60)) (A0_1 : Option Addr) (c0_1 : Nat) (l0_1 : List ByteArray) (A1 : Option Addr) (c1 : Nat) (l1 : List (S46)) (r : Bool) (w : World) (hr0_0 : Kd.C k60 w A0_0 l0_0.length l0_0) (hc0_0 : l0_0.length ≤ c0_0) (hr0_1 : Kd.C Kd.string w A0_1 l0_1.length l0_1) (hc0_1 : l0_1.length ≤ c0_1) (hr1 : Kd.C k46 w A1 l1.length l1) (hc1 : l1.length ≤ c1) (h : accountinglaw15_light.f k l0_0 l0_1 l1 = some r) :
    Calls Try.prog 9 #[.agg #[.slice A0_0 l0_0.length c0_0, .slice A0_1 l0_1.length c0_1], .slice A1 l1.length c1] w fun e w' => e = .returned (.bool r) ∧ Below w.heap.size w w' := by
  have hu25 := Try.underlying25
  have HR0_0 := Aside0.mk hr0_0
  have HC0_0 := Aside0.mk hc0_0
  clear hr0_0 hc0_0
  have HR0_1 := Aside0.mk hr0_1
  have HC0_1 := Aside0.mk hc0_1
  clear hr0_1 hc0_1
  have HR1 := Aside0.mk hr1
  have HC1 := Aside0.mk hc1
  clear hr1 hc1
  have HB := Aside0.mk (Below.refl w.heap.size w)
  have H : (if (l0_0.length : Int) > 250 then (accountinglaw15_light.j0 k l1 true l0_0 l0_1) else (if (l0_1.length : Int) > 250 then (accountinglaw15_light.j0 k l1 true l0_0 l0_1) else (accountinglaw15_light.j0 k l1 (decide ((l1.length : Int) > 40)) l0_0 l0_1))) = some r := h
  clear h
  have HC3 := Aside0.mk H
  clear H
  go_enter Try.func9, Try.ntmps9
  go_upto_region 1 with (first | ((with_reducible refine gate_dst (N := 2) rfl ?_); (try (refine gate_guard (by rfl) ?_; dsimp only)); refine box_event ?hg (N := 2) ?hd (cs := #[.slice A0_0 l0_0.length c0_0, .slice A0_1 l0_1.length c0_1]) (t := 25) ?hr ?_; (case hd => rfl); (case hg => rfl); (case hr => first | (go_simp; done) | (go_simp; rfl)); intro gb101 hg w4 hbox hb; have n0_ := Aside0.mk (below_step (by repeat (first | (with_reducible first | exact HB.out | apply below_alloc | apply pw_below_drewN | apply below_drew1) | exact HB.out)) hb); have n1_ := Aside0.mk (hbox); have n2_ := Aside0.mk ((by rw [hg]; exact (below_size (by repeat (first | (with_reducible first | exact HB.out | apply below_alloc | apply pw_below_drewN | apply below_drew1) | exact HB.out))) : w.heap.size ≤ gb101)); have n3_ := Aside0.mk ((by rw [hg]; exact (below_size (by repeat (first | (with_reducible first | exact HB.out | apply below_alloc | apply pw_below_drewN | apply below_drew1) | exact HB.out))) : w.heap.size ≤ gb101)); clear HB; have HB := n0_; have BK101 := n1_; have GW101 := n2_; have GE101 := n3_; clear n0_ n1_ n2_ n3_; clear hb hbox hg))
  (try simp only [Act.put, List.setIfInBounds_toArray, List.set_cons_zero, List.set_cons_succ])
  go_cut [21] (fun v21 wc => ∃ (kq : Nat) (x21_2 : Bool), v21 = .bool x21_2 ∧ Aside0 (accountinglaw15_light.j0 kq l1 x21_2 l0_0 l0_1 = some r) ∧ Aside0 (kq ≤ k) ∧ Aside0 (wc.heap[gb101]? = some (.cells #[(.slice A0_0 l0_0.length c0_0), (.slice A0_1 l0_1.length c0_1)] 25 (0, 0))) ∧ Aside0 (Below w.heap.size w wc))
  case first =>
    have H := HC3.out
    clear HC3
    by_cases c5 : (l0_0.length : Int) > 250
    · rw [if_pos c5] at H
      have c5b0 : decide (250 < (l0_0.length : Int)) = true := decide_eq_true c5
      have c5b1 : decide (250 < l0_0.length) = true := decide_eq_true (by omega)
      clear c5
      (first | rw [c5b0] | (simp only [i64_w, i32_w]; rw [c5b0]) | skip)
      have H' := Aside0.mk H
      clear H
      have hcz6_0 : w4.cell? ⟨gb101, 0, none⟩ = some (.slice A0_0 l0_0.length c0_0) := (blk_cell BK101.out 0).trans rfl
      have hcz6_1 : w4.cell? ⟨gb101, 1, none⟩ = some (.slice A0_1 l0_1.length c0_1) := (blk_cell BK101.out 1).trans rfl
      have hfz6_0 := blk_frozen BK101.out 0
      have hfz6_1 := blk_frozen BK101.out 1
      go_wp2
      go_meet
      case rel => exact ⟨_, (true), (by first | rfl | (simp; done) | (simp [*]; done)), H', ⟨by first | omega | exact Nat.le_refl _⟩, ⟨by (with_reducible repeat (first | refine blk_drewN ?_ _ | refine blk_drew ?_ | refine blk_alloc ?_ _)); exact BK101.out⟩, ⟨by repeat (first | (with_reducible first | exact HB.out | apply below_alloc | apply pw_below_drewN | apply below_drew1 | refine below_set ?_ GE101.out) | exact HB.out)⟩⟩
    · rw [if_neg c5] at H
      have c5b0 : decide (250 < (l0_0.length : Int)) = false := decide_eq_false c5
      have c5b1 : decide (250 < l0_0.length) = false := decide_eq_false (by omega)
      clear c5
      (first | rw [c5b0] | (simp only [i64_w, i32_w]; rw [c5b0]) | skip)
      by_cases c7 : (l0_1.length : Int) > 250
      · rw [if_pos c7] at H
        have c7b0 : decide (250 < (l0_1.length : Int)) = true := decide_eq_true c7
        have c7b1 : decide (250 < l0_1.length) = true := decide_eq_true (by omega)
        clear c7
        have H' := Aside0.mk H
        clear H
        have hcz8_0 : w4.cell? ⟨gb101, 0, none⟩ = some (.slice A0_0 l0_0.length c0_0) := (blk_cell BK101.out 0).trans rfl
        have hcz8_1 : w4.cell? ⟨gb101, 1, none⟩ = some (.slice A0_1 l0_1.length c0_1) := (blk_cell BK101.out 1).trans rfl
        have hfz8_0 := blk_frozen BK101.out 0
        have hfz8_1 := blk_frozen BK101.out 1
        go_wp2
        go_meet
        case rel => exact ⟨_, (true), (by first | rfl | (simp; done) | (simp [*]; done)), H', ⟨by first | omega | exact Nat.le_refl _⟩, ⟨by (with_reducible repeat (first | refine blk_drewN ?_ _ | refine blk_drew ?_ | refine blk_alloc ?_ _)); exact BK101.out⟩, ⟨by repeat (first | (with_reducible first | exact HB.out | apply below_alloc | apply pw_below_drewN | apply below_drew1 | refine below_set ?_ GE101.out) | exact HB.out)⟩⟩
      · rw [if_neg c7] at H
        have c7b0 : decide (250 < (l0_1.length : Int)) = false := decide_eq_false c7
        have c7b1 : decide (250 < l0_1.length) = false := decide_eq_false (by omega)
        clear c7
        have H' := Aside0.mk H
        clear H
        have hcz9_0 : w4.cell? ⟨gb101, 0, none⟩ = some (.slice A0_0 l0_0.length c0_0) := (blk_cell BK101.out 0).trans rfl
        have hcz9_1 : w4.cell? ⟨gb101, 1, none⟩ = some (.slice A0_1 l0_1.length c0_1) := (blk_cell BK101.out 1).trans rfl
        have hfz9_0 := blk_frozen BK101.out 0
        have hfz9_1 := blk_frozen BK101.out 1
        go_wp2
        go_meet
        case rel => exact ⟨_, (decide ((l1.length : Int) > 40)), (by first | rfl | (simp; done) | (simp [*]; done)), H', ⟨by first | omega | exact Nat.le_refl _⟩, ⟨by (with_reducible repeat (first | refine blk_drewN ?_ _ | refine blk_drew ?_ | refine blk_alloc ?_ _)); exact BK101.out⟩, ⟨by repeat (first | (with_reducible first | exact HB.out | apply below_alloc | apply pw_below_drewN | apply below_drew1 | refine below_set ?_ GE101.out) | exact HB.out)⟩⟩
  case rest =>
    clear HC3
    try clear c1
    try clear p2
    try clear c5
    try clear c5b0
    try clear c5b1
    try clear c7
    try clear c7b0
    try clear c7b1
    try clear c9
    try clear hcz6_0
    try clear hcz6_1
    try clear hcz8_0
    try clear hcz8_1
    try clear hcz9_0
    try clear hcz9_1
    try clear hfz6_0
    try clear hfz6_1
    try clear hfz8_0
    try clear hfz8_1
    try clear hfz9_0
    try clear hfz9_1
    obtain ⟨kq, x21_2, rfl, HA, HJ2, BK101, HB⟩ := hcut
    cases kq with
    | zero => exact absurd HA.out (by simp [accountinglaw15_light.j0])
    | succ kj2 =>
      have H := HA.out
      clear HA
      simp only [accountinglaw15_light.j0] at H
      by_cases c10 : x21_2 = true
      · subst c10
        have H1 : (some false) = some r := by rw [if_pos rfl] at H; exact H
        clear H
        have H := H1
        clear H1
        obtain rfl := Option.some.inj H
        go_wp2
        go_ret
        exact ⟨by first | rfl | (simp [errW_none, errW_some] <;> rfl) | (simp [*, errW_none, errW_some] <;> rfl), by repeat (first | (with_reducible first | exact HB.out | apply below_alloc | apply pw_below_drewN | apply below_drew1 | refine below_set ?_ GE101.out) | exact HB.out)⟩
      · replace c10 := Bool.eq_false_iff.mpr c10
        subst c10
        have H1 : (accountinglaw15_light.l0 kj2 l1 0 l0_0 l0_1) = some r := by rw [if_neg (show ¬ (false = true) by decide)] at H; exact H
        clear H
        have H := H1
        clear H1
        have H' := Aside0.mk H
        clear H
        go_wp2
        go_loopg [5] kj2 (fun kq v5 w' => ∃ (x5_2 : Int), v5 = .int .i64 x5_2 ∧ Aside0 (accountinglaw15_light.l0 kq l1 x5_2 l0_0 l0_1 = some r) ∧ Aside0 (kq ≤ kj2) ∧ Aside0 (w'.heap[gb101]? = some (.cells #[(.slice A0_0 l0_0.length c0_0), (.slice A0_1 l0_1.length c0_1)] 25 (0, 0))) ∧ Aside0 (Below w.heap.size w w'))
        case atStart => exact ⟨(0), (by first | rfl | (simp; done) | (simp [*]; done)), H', ⟨Nat.le_refl _⟩, ⟨by (with_reducible repeat (first | refine blk_drewN ?_ _ | refine blk_drew ?_ | refine blk_alloc ?_ _)); exact BK101.out⟩, ⟨by repeat (first | (with_reducible first | exact HB.out | apply below_alloc | apply pw_below_drewN | apply below_drew1 | refine below_set ?_ GE101.out) | exact HB.out)⟩⟩
        case round =>
          clear H'
          try clear c1
          try clear p2
          try clear c5
          try clear c5b0
          try clear c5b1
          try clear c7
          try clear c7b0
          try clear c7b1
          try clear c9
          try clear c10
          try clear hcz6_0
          try clear hcz6_1
          try clear hcz8_0
          try clear hcz8_1
          try clear hcz9_0
          try clear hcz9_1
          try clear hfz6_0
          try clear hfz6_1
          try clear hfz8_0
          try clear hfz8_1
          try clear hfz9_0
          try clear hfz9_1
          try clear p2
          obtain ⟨x5_2, rfl, HA, HK2, BK101, HB⟩ := hrel
          cases gk with
          | zero => exact absurd HA.out (by simp [accountinglaw15_light.l0])
          | succ k2 =>
            have H := HA.out
            clear HA
            simp only [accountinglaw15_light.l0] at H
            by_cases c11 : x5_2 < (l0_1.length : Int)
            · rw [if_pos c11] at H
              have c11b0 : decide (x5_2 < (l0_1.length : Int)) = true := decide_eq_true c11
              clear c11
              by_cases c12 : 0 ≤ x5_2
              · rw [if_pos c12] at H
                have c12b0 : decide (0 ≤ x5_2) = true := decide_eq_true c12
                clear c12
                by_cases c13 : ((rdOf ByteArray.empty l0_1 x5_2).size : Int) > 100
                · rw [if_pos c13] at H
                  have c13b0 : decide (100 < ((rdOf ByteArray.empty l0_1 x5_2).size : Int)) = true := decide_eq_true c13
                  have c13b1 : decide (100 < (rdOf ByteArray.empty l0_1 x5_2).size) = true := decide_eq_true (by omega)
                  clear c13
                  obtain rfl := Option.some.inj H
                  have hcz14_0 : wr.cell? ⟨gb101, 0, none⟩ = some (.slice A0_0 l0_0.length c0_0) := (blk_cell BK101.out 0).trans rfl
                  have hcz14_1 : wr.cell? ⟨gb101, 1, none⟩ = some (.slice A0_1 l0_1.length c0_1) := (blk_cell BK101.out 1).trans rfl
                  have hfz14_0 := blk_frozen BK101.out 0
                  have hfz14_1 := blk_frozen BK101.out 1
                  have p102 : 0 ≤ (x5_2 : Int) := of_decide_eq_true (by first | (with_reducible assumption) | assumption)
                  have q102 : x5_2 < (l0_1.length : Int) := of_decide_eq_true (by first | (with_reducible assumption) | assumption)
                  obtain ⟨ad102, e102, hx102_0⟩ := Kd.at_string HR0_1.out x5_2 p102 q102
                  cases e102
                  replace hx102_0 := (HB.out.cell (World.block_lt_of_cell? w _ hx102_0)).trans hx102_0
                  replace p102 := eq_true p102
                  replace q102 := eq_true q102
                  go_wp2
                  go_ret
                  exact ⟨by first | rfl | (simp [errW_none, errW_some] <;> rfl) | (simp [*, errW_none, errW_some] <;> rfl), by repeat (first | (with_reducible first | exact HB.out | apply below_alloc | apply pw_below_drewN | apply below_drew1 | refine below_set ?_ GE101.out) | exact HB.out)⟩
                · rw [if_neg c13] at H
                  have c13b0 : decide (100 < ((rdOf ByteArray.empty l0_1 x5_2).size : Int)) = false := decide_eq_false c13
                  have c13b1 : decide (100 < (rdOf ByteArray.empty l0_1 x5_2).size) = false := decide_eq_false (by omega)
                  clear c13
                  have H' := Aside0.mk H
                  clear H
                  have hcz15_0 : wr.cell? ⟨gb101, 0, none⟩ = some (.slice A0_0 l0_0.length c0_0) := (blk_cell BK101.out 0).trans rfl
                  have hcz15_1 : wr.cell? ⟨gb101, 1, none⟩ = some (.slice A0_1 l0_1.length c0_1) := (blk_cell BK101.out 1).trans rfl
                  have hfz15_0 := blk_frozen BK101.out 0
                  have hfz15_1 := blk_frozen BK101.out 1
                  have p102 : 0 ≤ (x5_2 : Int) := of_decide_eq_true (by first | (with_reducible assumption) | assumption)
                  have q102 : x5_2 < (l0_1.length : Int) := of_decide_eq_true (by first | (with_reducible assumption) | assumption)
                  obtain ⟨ad102, e102, hx102_0⟩ := Kd.at_string HR0_1.out x5_2 p102 q102
                  cases e102
                  replace hx102_0 := (HB.out.cell (World.block_lt_of_cell? w _ hx102_0)).trans hx102_0
                  replace p102 := eq_true p102
                  replace q102 := eq_true q102
                  go_wp2
                  go_roundg k2
                  case measure => have := HJ2.out; have := HK2.out; omega
                  case rel => exact ⟨(wrap64 (x5_2 + 1)), (by first | rfl | (simp; done) | (simp [*]; done)), H', ⟨by have := HJ2.out; have := HK2.out; omega⟩, ⟨by (with_reducible repeat (first | refine blk_drewN ?_ _ | refine blk_drew ?_ | refine blk_alloc ?_ _)); exact BK101.out⟩, ⟨by repeat (first | (with_reducible first | exact HB.out | apply below_alloc | apply pw_below_drewN | apply below_drew1 | refine below_set ?_ GE101.out) | exact HB.out)⟩⟩
              · rw [if_neg c12] at H
                exact absurd H (by simp)
            · rw [if_neg c11] at H
              have c11b0 : decide (x5_2 < (l0_1.length : Int)) = false := decide_eq_false c11
              clear c11
              have H' := Aside0.mk H
              clear H
              have hcz16_0 : wr.cell? ⟨gb101, 0, none⟩ = some (.slice A0_0 l0_0.length c0_0) := (blk_cell BK101.out 0).trans rfl
              have hcz16_1 : wr.cell? ⟨gb101, 1, none⟩ = some (.slice A0_1 l0_1.length c0_1) := (blk_cell BK101.out 1).trans rfl
              have hfz16_0 := blk_frozen BK101.out 0
              have hfz16_1 := blk_frozen BK101.out 1
              go_wp2
              go_loopg [6] k2 (fun kq v6 w' => ∃ (x6_3 : Int), v6 = .int .i64 x6_3 ∧ Aside0 (accountinglaw15_light.l1 kq l1 x6_3 = some r) ∧ Aside0 (kq ≤ k2) ∧ Aside0 (w'.heap[gb101]? = some (.cells #[(.slice A0_0 l0_0.length c0_0), (.slice A0_1 l0_1.length c0_1)] 25 (0, 0))) ∧ Aside0 (Below w.heap.size w w'))
              case atStart => exact ⟨(0), (by first | rfl | (simp; done) | (simp [*]; done)), H', ⟨Nat.le_refl _⟩, ⟨by (with_reducible repeat (first | refine blk_drewN ?_ _ | refine blk_drew ?_ | refine blk_alloc ?_ _)); exact BK101.out⟩, ⟨by repeat (first | (with_reducible first | exact HB.out | apply below_alloc | apply pw_below_drewN | apply below_drew1 | refine below_set ?_ GE101.out) | exact HB.out)⟩⟩
              case round =>
                clear H'
                try clear c1
                try clear p1
                try clear q1
                try clear hx1
                try clear p2
                try clear c5
                try clear c5b0
                try clear c5b1
                try clear p6
                try clear c7
                try clear c7b0
                try clear c7b1
                try clear c9
                try clear c10
                try clear p10
                try clear q10
                try clear hx10
                try clear c11
                try clear c11b0
                try clear c12
                try clear c12b0
                try clear c13
                try clear c13b0
                try clear c13b1
                try clear hcz14_0
                try clear hcz14_1
                try clear hcz15_0
                try clear hcz15_1
                try clear hcz16_0
                try clear hcz16_1
                try clear hcz6_0
                try clear hcz6_1
                try clear hcz8_0
                try clear hcz8_1
                try clear hcz9_0
                try clear hcz9_1
                try clear hfz14_0
                try clear hfz14_1
                try clear hfz15_0
                try clear hfz15_1
                try clear hfz16_0
                try clear hfz16_1
                try clear hfz6_0
                try clear hfz6_1
                try clear hfz8_0
                try clear hfz8_1
                try clear hfz9_0
                try clear hfz9_1
                try clear hx102_0
                try clear p102
                try clear p2
                try clear q102
                obtain ⟨x6_3, rfl, HA, HK3, BK101, HB⟩ := hrel
                cases gk with
                | zero => exact absurd HA.out (by simp [accountinglaw15_light.l1])
                | succ k3 =>
                  have H := HA.out
                  clear HA
                  simp only [accountinglaw15_light.l1] at H
                  by_cases c17 : x6_3 < (l1.length : Int)
                  · rw [if_pos c17] at H
                    have c17b0 : decide (x6_3 < (l1.length : Int)) = true := decide_eq_true c17
                    clear c17
                    by_cases c18 : 0 ≤ x6_3
                    · rw [if_pos c18] at H
                      have c18b0 : decide (0 ≤ x6_3) = true := decide_eq_true c18
                      clear c18
                      by_cases c19 : (((rd_T46 l1 x6_3).f2).size : Int) > 100
                      · rw [if_pos c19] at H
                        have c19b0 : decide (100 < (((rd_T46 l1 x6_3).f2).size : Int)) = true := decide_eq_true c19
                        have c19b1 : decide (100 < ((rd_T46 l1 x6_3).f2).size) = true := decide_eq_true (by omega)
                        clear c19
                        obtain rfl := Option.some.inj H
                        have p103 : 0 ≤ (x6_3 : Int) := of_decide_eq_true (by first | (with_reducible assumption) | assumption)
                        have q103 : x6_3 < (l1.length : Int) := of_decide_eq_true (by first | (with_reducible assumption) | assumption)
                        obtain ⟨ad103, e103, hx103_0, hx103_1, hx103_2, hx103_3⟩ := at_T46 HR1.out x6_3 p103 q103
                        cases e103
                        replace hx103_0 := (HB.out.cell (World.block_lt_of_cell? w _ hx103_0)).trans hx103_0
                        replace hx103_1 := (HB.out.cell (World.block_lt_of_cell? w _ hx103_1)).trans hx103_1
                        replace hx103_2 := (HB.out.cell (World.block_lt_of_cell? w _ hx103_2)).trans hx103_2
                        replace hx103_3 := (HB.out.cell (World.block_lt_of_cell? w _ hx103_3)).trans hx103_3
                        replace p103 := eq_true p103
                        replace q103 := eq_true q103
                        go_wp2
                        go_ret
                        exact ⟨by first | rfl | (simp [errW_none, errW_some] <;> rfl) | (simp [*, errW_none, errW_some] <;> rfl), by repeat (first | (with_reducible first | exact HB.out | apply below_alloc | apply pw_below_drewN | apply below_drew1 | refine below_set ?_ GE101.out) | exact HB.out)⟩
                      · rw [if_neg c19] at H
                        have c19b0 : decide (100 < (((rd_T46 l1 x6_3).f2).size : Int)) = false := decide_eq_false c19
                        have c19b1 : decide (100 < ((rd_T46 l1 x6_3).f2).size) = false := decide_eq_false (by omega)
                        clear c19
                        have H' := Aside0.mk H
                        clear H
                        have p103 : 0 ≤ (x6_3 : Int) := of_decide_eq_true (by first | (with_reducible assumption) | assumption)
                        have q103 : x6_3 < (l1.length : Int) := of_decide_eq_true (by first | (with_reducible assumption) | assumption)
                        obtain ⟨ad103, e103, hx103_0, hx103_1, hx103_2, hx103_3⟩ := at_T46 HR1.out x6_3 p103 q103
                        cases e103
                        replace hx103_0 := (HB.out.cell (World.block_lt_of_cell? w _ hx103_0)).trans hx103_0
                        replace hx103_1 := (HB.out.cell (World.block_lt_of_cell? w _ hx103_1)).trans hx103_1
                        replace hx103_2 := (HB.out.cell (World.block_lt_of_cell? w _ hx103_2)).trans hx103_2
                        replace hx103_3 := (HB.out.cell (World.block_lt_of_cell? w _ hx103_3)).trans hx103_3
                        replace p103 := eq_true p103
                        replace q103 := eq_true q103
                        go_wp2
                        go_roundg k3
                        case measure => have := HJ2.out; have := HK2.out; have := HK3.out; omega
                        case rel => exact ⟨(wrap64 (x6_3 + 1)), (by first | rfl | (simp; done) | (simp [*]; done)), H', ⟨by have := HJ2.out; have := HK2.out; have := HK3.out; omega⟩, ⟨by (with_reducible repeat (first | refine blk_drewN ?_ _ | refine blk_drew ?_ | refine blk_alloc ?_ _)); exact BK101.out⟩, ⟨by repeat (first | (with_reducible first | exact HB.out | apply below_alloc | apply pw_below_drewN | apply below_drew1 | refine below_set ?_ GE101.out) | exact HB.out)⟩⟩
                    · rw [if_neg c18] at H
                      exact absurd H (by simp)
                  · rw [if_neg c17] at H
                    have c17b0 : decide (x6_3 < (l1.length : Int)) = false := decide_eq_false c17
                    clear c17
                    obtain rfl := Option.some.inj H
                    go_wp2
                    go_ret
                    exact ⟨by first | rfl | (simp [errW_none, errW_some] <;> rfl) | (simp [*, errW_none, errW_some] <;> rfl), by repeat (first | (with_reducible first | exact HB.out | apply below_alloc | apply pw_below_drewN | apply below_drew1 | refine below_set ?_ GE101.out) | exact HB.out)⟩
end Go.Proofs.Ytbbhichndfbooaa.P
namespace Go.Proofs.Ytbbhichndfbooaa.P
open Go.RowKit Go.Proofs.YtbbhichndfbooaaW.PrintWords Go.Proofs.YtbbhichndfbooaaW.PrintLast
set_option linter.unusedVariables false
set_option linter.unusedSimpArgs false
theorem w64r {x : Int} (h0 : 0 ≤ x) (h1 : x ≤ 9223372036854775807) : wrap64 x = x := by unfold wrap64; omega
theorem right_some (steps : List S60) (hl : steps.length ≤ 9223372036854775807) : ∃ b k, flow_right.f k steps = some b := by
  have key : ∀ (n i : Nat), steps.length - i = n → i ≤ steps.length → ∃ b, Ev (fun k => flow_right.l0 k steps steps (steps.length : Int) (i : Int)) b := by
    intro n
    induction n with
    | zero =>
      intro i hn hi
      refine ⟨true, Ev.step (fun k => flow_right.l0.eq_2 _ _ _ _ k) ?_⟩
      simp only [if_neg (show ¬ ((i : Int) < (steps.length : Int)) by omega)]
      exact Ev.now _
    | succ n ih =>
      intro i hn hi
      have hw : wrap64 ((i : Int) + 1) = ((i + 1 : Nat) : Int) := by rw [w64r (by omega) (by omega)]; omega
      have hw1 : 0 < i → wrap64 ((i : Int) - 1) = (i : Int) - 1 := fun _ => w64r (by omega) (by omega)
      obtain ⟨b, hb⟩ := ih (i + 1) (by omega) (by omega)
      have g1 : (i : Int) < (steps.length : Int) := by omega
      have g2 : (0 : Int) ≤ (i : Int) := by omega
      by_cases h1 : (rd_T60 steps (i : Int)).f0 < 0
      · refine ⟨false, Ev.step (fun k => flow_right.l0.eq_2 _ _ _ _ k) ?_⟩
        simp only [if_pos g1, if_pos g2, if_pos h1]
        exact Ev.now _
      by_cases h0 : i = 0
      · have g3 : ¬ (i : Int) > 0 := by omega
        by_cases h2 : (rd_T60 steps (i : Int)).f1 < 0
        · refine ⟨false, Ev.step (fun k => flow_right.l0.eq_2 _ _ _ _ k) ?_⟩
          simp only [if_pos g1, if_pos g2, if_neg h1, if_neg g3, if_pos h2]
          exact Ev.now _
        by_cases h3 : (rd_T60 steps (i : Int)).f1 > 5
        · refine ⟨false, Ev.step (fun k => flow_right.l0.eq_2 _ _ _ _ k) ?_⟩
          simp only [if_pos g1, if_pos g2, if_neg h1, if_neg g3, if_neg h2, if_pos h3]
          exact Ev.now _
        · refine ⟨b, Ev.step (fun k => flow_right.l0.eq_2 _ _ _ _ k) ?_⟩
          simp only [if_pos g1, if_pos g2, if_neg h1, if_neg g3, if_neg h2, if_neg h3, hw]
          exact hb
      · have g3 : (i : Int) > 0 := by omega
        have g4 : (0 : Int) ≤ (i : Int) - 1 := by omega
        have g5 : (i : Int) - 1 < (steps.length : Int) := by omega
        have e1 := hw1 (by omega)
        by_cases h4 : (rd_T60 steps ((i : Int) - 1)).f0 ≥ (rd_T60 steps (i : Int)).f0
        · refine ⟨false, Ev.step (fun k => flow_right.l0.eq_2 _ _ _ _ k) ?_⟩
          simp only [if_pos g1, if_pos g2, if_neg h1, if_pos g3, e1, if_pos g4, if_pos g5, if_pos h4]
          exact Ev.now _
        by_cases h2 : (rd_T60 steps (i : Int)).f1 < 0
        · refine ⟨false, Ev.step (fun k => flow_right.l0.eq_2 _ _ _ _ k) ?_⟩
          simp only [if_pos g1, if_pos g2, if_neg h1, if_pos g3, e1, if_pos g4, if_pos g5, if_neg h4, if_pos h2]
          exact Ev.now _
        by_cases h3 : (rd_T60 steps (i : Int)).f1 > 5
        · refine ⟨false, Ev.step (fun k => flow_right.l0.eq_2 _ _ _ _ k) ?_⟩
          simp only [if_pos g1, if_pos g2, if_neg h1, if_pos g3, e1, if_pos g4, if_pos g5, if_neg h4, if_neg h2, if_pos h3]
          exact Ev.now _
        · refine ⟨b, Ev.step (fun k => flow_right.l0.eq_2 _ _ _ _ k) ?_⟩
          simp only [if_pos g1, if_pos g2, if_neg h1, if_pos g3, e1, if_pos g4, if_pos g5, if_neg h4, if_neg h2, if_neg h3, hw]
          exact hb
  obtain ⟨b, hb⟩ := key _ 0 rfl (Nat.zero_le _)
  exact ⟨b, hb.rounds⟩
theorem light_some (steps : List S60) (apprs : List ByteArray) (ops : List S46) : ∃ b k, accountinglaw15_light.f k steps apprs ops = some b ∧ (b = true → steps.length ≤ 250 ∧ apprs.length ≤ 250 ∧ ops.length ≤ 40) := by
  have bad : Ev (fun k => accountinglaw15_light.j0 k ops true steps apprs) false := by
    refine Ev.step (fun k => accountinglaw15_light.j0.eq_2 _ _ _ _ k) ?_
    simp only [if_true]
    exact Ev.now _
  unfold accountinglaw15_light.f
  by_cases h1 : (steps.length : Int) > 250
  · obtain ⟨k, hk⟩ := bad.rounds
    exact ⟨false, k, by rw [if_pos h1]; exact hk, fun h => by cases h⟩
  by_cases h2 : (apprs.length : Int) > 250
  · obtain ⟨k, hk⟩ := bad.rounds
    exact ⟨false, k, by rw [if_neg h1, if_pos h2]; exact hk, fun h => by cases h⟩
  by_cases h3 : (ops.length : Int) > 40
  · obtain ⟨k, hk⟩ := bad.rounds
    exact ⟨false, k, by rw [if_neg h1, if_neg h2, decide_eq_true h3]; exact hk, fun h => by cases h⟩
  have key1 : ∀ (n i : Nat), ops.length - i = n → i ≤ ops.length → ∃ b, Ev (fun k => accountinglaw15_light.l1 k ops (i : Int)) b := by
    intro n
    induction n with
    | zero =>
      intro i hn hi
      refine ⟨true, Ev.step (fun k => accountinglaw15_light.l1.eq_2 _ _ k) ?_⟩
      simp only [if_neg (show ¬ ((i : Int) < (ops.length : Int)) by omega)]
      exact Ev.now _
    | succ n ih =>
      intro i hn hi
      have hw : wrap64 ((i : Int) + 1) = ((i + 1 : Nat) : Int) := by rw [w64r (by omega) (by omega)]; omega
      obtain ⟨b, hb⟩ := ih (i + 1) (by omega) (by omega)
      by_cases h : (((rd_T46 ops (i : Int)).f2).size : Int) > 100
      · refine ⟨false, Ev.step (fun k => accountinglaw15_light.l1.eq_2 _ _ k) ?_⟩
        simp only [if_pos (show ((i : Int) < (ops.length : Int)) by omega), if_pos (show (0 : Int) ≤ (i : Int) by omega), if_pos h]
        exact Ev.now _
      · refine ⟨b, Ev.step (fun k => accountinglaw15_light.l1.eq_2 _ _ k) ?_⟩
        simp only [if_pos (show ((i : Int) < (ops.length : Int)) by omega), if_pos (show (0 : Int) ≤ (i : Int) by omega), if_neg h, hw]
        exact hb
  obtain ⟨b1, hb1⟩ := key1 _ 0 rfl (Nat.zero_le _)
  have key0 : ∀ (n i : Nat), apprs.length - i = n → i ≤ apprs.length → ∃ b, Ev (fun k => accountinglaw15_light.l0 k ops (i : Int) steps apprs) b := by
    intro n
    induction n with
    | zero =>
      intro i hn hi
      refine ⟨b1, Ev.step (fun k => accountinglaw15_light.l0.eq_2 _ _ _ _ k) ?_⟩
      simp only [if_neg (show ¬ ((i : Int) < (apprs.length : Int)) by omega)]
      exact hb1
    | succ n ih =>
      intro i hn hi
      have hw : wrap64 ((i : Int) + 1) = ((i + 1 : Nat) : Int) := by rw [w64r (by omega) (by omega)]; omega
      obtain ⟨b, hb⟩ := ih (i + 1) (by omega) (by omega)
      by_cases h : ((rdOf ByteArray.empty apprs (i : Int)).size : Int) > 100
      · refine ⟨false, Ev.step (fun k => accountinglaw15_light.l0.eq_2 _ _ _ _ k) ?_⟩
        simp only [if_pos (show ((i : Int) < (apprs.length : Int)) by omega), if_pos (show (0 : Int) ≤ (i : Int) by omega), if_pos h]
        exact Ev.now _
      · refine ⟨b, Ev.step (fun k => accountinglaw15_light.l0.eq_2 _ _ _ _ k) ?_⟩
        simp only [if_pos (show ((i : Int) < (apprs.length : Int)) by omega), if_pos (show (0 : Int) ≤ (i : Int) by omega), if_neg h, hw]
        exact hb
  obtain ⟨b, hb⟩ := key0 _ 0 rfl (Nat.zero_le _)
  have hj : Ev (fun k => accountinglaw15_light.j0 k ops false steps apprs) b := by
    refine Ev.step (fun k => accountinglaw15_light.j0.eq_2 _ _ _ _ k) ?_
    simp only [Bool.false_eq_true, if_false]
    exact hb
  obtain ⟨k, hk⟩ := hj.rounds
  exact ⟨b, k, by rw [if_neg h1, if_neg h2, decide_eq_false h3]; exact hk, fun _ => by omega⟩
end Go.Proofs.Ytbbhichndfbooaa.P
namespace Go.Proofs.Ytbbhichndfbooaa.P
open Go.RowKit Go.Proofs.YtbbhichndfbooaaW.PrintWords Go.Proofs.YtbbhichndfbooaaW.PrintLast Go.Proofs.YtbbhichndfbooaaW.PrintMore
attribute [local go_sem] max2_int min2_int max_two min_two max_three min_three max_four min_four   -- for this text's walks alone
set_option linter.unusedVariables false
set_option linter.unusedSimpArgs false
/-! ### accountingref06_letter: function 55 -/
def accountingref06_letter.f (a0 : Int) : Option (Bool) := if a0 ≥ 97 then (if a0 ≤ 122 then (some true) else (if a0 ≥ 65 then (if a0 ≤ 90 then (some true) else (some (a0 == 95))) else (some (a0 == 95)))) else (if a0 ≥ 65 then (if a0 ≤ 90 then (some true) else (some (a0 == 95))) else (some (a0 == 95)))
set_option maxHeartbeats 8000000 in
set_option maxRecDepth 100000 in
theorem accountingref06_letter.calls (a0 : Int) (r : Bool) (w : World) (h : accountingref06_letter.f a0 = some r) :
    Calls Try.prog 55 #[.int .u8 a0] w fun e w' => e = .returned (.bool r) ∧ Drawn0 w w' := by
  have H : (if a0 ≥ 97 then (if a0 ≤ 122 then (some true) else (if a0 ≥ 65 then (if a0 ≤ 90 then (some true) else (some (a0 == 95))) else (some (a0 == 95)))) else (if a0 ≥ 65 then (if a0 ≤ 90 then (some true) else (some (a0 == 95))) else (some (a0 == 95)))) = some r := h
  clear h
  by_cases c2 : a0 ≥ 97
  · rw [if_pos c2] at H
    have c2b0 : decide (97 ≤ a0) = true := decide_eq_true c2
    clear c2
    by_cases c3 : a0 ≤ 122
    · rw [if_pos c3] at H
      have c3b0 : decide (a0 ≤ 122) = true := decide_eq_true c3
      clear c3
      obtain rfl := Option.some.inj H
      go_enter Try.func55, Try.ntmps55
      go_wp2
      go_ret
      exact ⟨by first | rfl | (simp; done) | (simp [*]; done), by repeat (first | exact Drawn0.refl _ | apply Drawn0.step)⟩
    · rw [if_neg c3] at H
      have c3b0 : decide (a0 ≤ 122) = false := decide_eq_false c3
      clear c3
      by_cases c4 : a0 ≥ 65
      · rw [if_pos c4] at H
        have c4b0 : decide (65 ≤ a0) = true := decide_eq_true c4
        clear c4
        by_cases c5 : a0 ≤ 90
        · rw [if_pos c5] at H
          have c5b0 : decide (a0 ≤ 90) = true := decide_eq_true c5
          clear c5
          obtain rfl := Option.some.inj H
          go_enter Try.func55, Try.ntmps55
          go_wp2
          go_ret
          exact ⟨by first | rfl | (simp; done) | (simp [*]; done), by repeat (first | exact Drawn0.refl _ | apply Drawn0.step)⟩
        · rw [if_neg c5] at H
          have c5b0 : decide (a0 ≤ 90) = false := decide_eq_false c5
          clear c5
          obtain rfl := Option.some.inj H
          go_enter Try.func55, Try.ntmps55
          go_wp2
          go_ret
          exact ⟨by first | rfl | (simp; done) | (simp [*]; done), by repeat (first | exact Drawn0.refl _ | apply Drawn0.step)⟩
      · rw [if_neg c4] at H
        have c4b0 : decide (65 ≤ a0) = false := decide_eq_false c4
        clear c4
        obtain rfl := Option.some.inj H
        go_enter Try.func55, Try.ntmps55
        go_wp2
        go_ret
        exact ⟨by first | rfl | (simp; done) | (simp [*]; done), by repeat (first | exact Drawn0.refl _ | apply Drawn0.step)⟩
  · rw [if_neg c2] at H
    have c2b0 : decide (97 ≤ a0) = false := decide_eq_false c2
    clear c2
    by_cases c6 : a0 ≥ 65
    · rw [if_pos c6] at H
      have c6b0 : decide (65 ≤ a0) = true := decide_eq_true c6
      clear c6
      by_cases c7 : a0 ≤ 90
      · rw [if_pos c7] at H
        have c7b0 : decide (a0 ≤ 90) = true := decide_eq_true c7
        clear c7
        obtain rfl := Option.some.inj H
        go_enter Try.func55, Try.ntmps55
        go_wp2
        go_ret
        exact ⟨by first | rfl | (simp; done) | (simp [*]; done), by repeat (first | exact Drawn0.refl _ | apply Drawn0.step)⟩
      · rw [if_neg c7] at H
        have c7b0 : decide (a0 ≤ 90) = false := decide_eq_false c7
        clear c7
        obtain rfl := Option.some.inj H
        go_enter Try.func55, Try.ntmps55
        go_wp2
        go_ret
        exact ⟨by first | rfl | (simp; done) | (simp [*]; done), by repeat (first | exact Drawn0.refl _ | apply Drawn0.step)⟩
    · rw [if_neg c6] at H
      have c6b0 : decide (65 ≤ a0) = false := decide_eq_false c6
      clear c6
      obtain rfl := Option.some.inj H
      go_enter Try.func55, Try.ntmps55
      go_wp2
      go_ret
      exact ⟨by first | rfl | (simp; done) | (simp [*]; done), by repeat (first | exact Drawn0.refl _ | apply Drawn0.step)⟩
/-! ### accountingref06_digit: function 56 -/
def accountingref06_digit.f (a0 : Int) : Option (Bool) := if a0 ≥ 48 then (some (decide (a0 ≤ 57))) else (some false)
set_option maxHeartbeats 8000000 in
set_option maxRecDepth 100000 in
theorem accountingref06_digit.calls (a0 : Int) (r : Bool) (w : World) (h : accountingref06_digit.f a0 = some r) :
    Calls Try.prog 56 #[.int .u8 a0] w fun e w' => e = .returned (.bool r) ∧ Drawn0 w w' := by
  have H : (if a0 ≥ 48 then (some (decide (a0 ≤ 57))) else (some false)) = some r := h
  clear h
  by_cases c2 : a0 ≥ 48
  · rw [if_pos c2] at H
    have c2b0 : decide (48 ≤ a0) = true := decide_eq_true c2
    clear c2
    obtain rfl := Option.some.inj H
    go_enter Try.func56, Try.ntmps56
    go_wp2
    go_ret
    exact ⟨by first | rfl | (simp; done) | (simp [*]; done), by repeat (first | exact Drawn0.refl _ | apply Drawn0.step)⟩
  · rw [if_neg c2] at H
    have c2b0 : decide (48 ≤ a0) = false := decide_eq_false c2
    clear c2
    obtain rfl := Option.some.inj H
    go_enter Try.func56, Try.ntmps56
    go_wp2
    go_ret
    exact ⟨by first | rfl | (simp; done) | (simp [*]; done), by repeat (first | exact Drawn0.refl _ | apply Drawn0.step)⟩
/-! ### accountingref06_Code: function 34 -/
def accountingref06_Code.l0 : Nat → ByteArray → Int → Option (Bool)
  | 0, _, _ => none
  | k + 1, x0, x3 => if x3 < (x0.size : Int) then (if 0 ≤ x3 then ((accountingref06_letter.f (bt x0 x3)).bind fun t115 => (if t115 = true then (accountingref06_Code.l0 k x0 (wrap64 (x3 + 1))) else ((accountingref06_digit.f (bt x0 x3)).bind fun t116 => (if t116 = true then (accountingref06_Code.l0 k x0 (wrap64 (x3 + 1))) else (some false))))) else (none)) else (if (x0.size : Int) ≥ 1 then (some (decide ((x0.size : Int) ≤ 12))) else (some false))
def accountingref06_Code.f (k : Nat) (a0 : ByteArray) : Option (Bool) := accountingref06_Code.l0 k a0 0
theorem accountingref06_Code.mono_l : ∀ k, (∀ y0 y1, LeO (accountingref06_Code.l0 k y0 y1) (accountingref06_Code.l0 (k + 1) y0 y1))
  | 0 => fun _ _ r h => by simp [accountingref06_Code.l0] at h
  | k + 1 => by
    have ih0 := accountingref06_Code.mono_l k
    · intro y0 y1
      unfold accountingref06_Code.l0
      repeat' first
      | (with_reducible exact ih0 _ _)
      | (with_reducible exact LeO.refl _)
      | (with_reducible exact LeO.none _)
      | (with_reducible refine LeO.ite ?_ ?_)
      | (with_reducible refine LeO.bind ?_ (fun _ => ?_))
      | exact ih0 _ _
      | exact LeO.none _
      | refine LeO.ite ?_ ?_
      | refine LeO.bind ?_ (fun _ => ?_)
theorem accountingref06_Code.mono : ∀ a0 k, LeO (accountingref06_Code.f k a0) (accountingref06_Code.f (k + 1) a0) := by
  intro a0 k
  have ih0 := accountingref06_Code.mono_l k
  unfold accountingref06_Code.f
  repeat' first
      | (with_reducible exact ih0 _ _)
      | (with_reducible exact LeO.refl _)
      | (with_reducible exact LeO.none _)
      | (with_reducible refine LeO.ite ?_ ?_)
      | (with_reducible refine LeO.bind ?_ (fun _ => ?_))
      | exact ih0 _ _
      | exact LeO.none _
      | refine LeO.ite ?_ ?_
      | refine LeO.bind ?_ (fun _ => ?_)
set_option maxHeartbeats 8000000 in
set_option maxRecDepth 100000 in
theorem accountingref06_Code.calls (k : Nat) (a0 : ByteArray) (r : Bool) (w : World) (h : accountingref06_Code.f k a0 = some r) :
    Calls Try.prog 34 #[.string a0] w fun e w' => e = .returned (.bool r) ∧ Drawn0 w w' := by
  have H : (accountingref06_Code.l0 k a0 0) = some r := h
  clear h
  have H' := Aside0.mk H
  clear H
  go_enter Try.func34, Try.ntmps34
  go_wp2
  go_loopg [3] k (fun kq v3 w' => ∃ (x3_1 : Int), v3 = .int .i64 x3_1 ∧ Aside0 (accountingref06_Code.l0 kq a0 x3_1 = some r) ∧ Aside0 (kq ≤ k) ∧ Drawn0 w w')
  case atStart => exact ⟨(0), (by first | rfl | (simp; done) | (simp [*]; done)), H', ⟨Nat.le_refl _⟩, by repeat (first | exact Drawn0.refl _ | apply Drawn0.step)⟩
  case round =>
    clear H'
    obtain ⟨x3_1, rfl, HA, HK1, ⟨m1, rfl⟩⟩ := hrel
    cases gk with
    | zero => exact absurd HA.out (by simp [accountingref06_Code.l0])
    | succ k1 =>
      have H := HA.out
      clear HA
      simp only [accountingref06_Code.l0] at H
      by_cases c2 : x3_1 < (a0.size : Int)
      · rw [if_pos c2] at H
        have c2b0 : decide (x3_1 < (a0.size : Int)) = true := decide_eq_true c2
        clear c2
        by_cases c3 : 0 ≤ x3_1
        · rw [if_pos c3] at H
          have c3b0 : decide (0 ≤ x3_1) = true := decide_eq_true c3
          clear c3
          replace H := Option.bind_eq_some_iff.mp H
          obtain ⟨t115, A50, H⟩ := H
          replace H : (if t115 = true then (accountingref06_Code.l0 k1 a0 (wrap64 (x3_1 + 1))) else ((accountingref06_digit.f (bt a0 x3_1)).bind fun t116 => (if t116 = true then (accountingref06_Code.l0 k1 a0 (wrap64 (x3_1 + 1))) else (some false)))) = some r := H
          have A5 := Aside0.mk A50
          clear A50
          by_cases c6 : t115 = true
          · subst c6
            have H1 : (accountingref06_Code.l0 k1 a0 (wrap64 (x3_1 + 1))) = some r := by rw [if_pos rfl] at H; exact H
            clear H
            have H := H1
            clear H1
            have H' := Aside0.mk H
            clear H
            have p4 : 0 ≤ (x3_1 : Int) := of_decide_eq_true (by first | (with_reducible assumption) | assumption)
            have q4 : x3_1 < (a0.size : Int) := of_decide_eq_true (by first | (with_reducible assumption) | assumption)
            have hx4 := bt_at a0 x3_1
            replace p4 := eq_true p4
            replace q4 := eq_true q4
            go_wp2_with (first | ((with_reducible refine gate_callee (f := 55) rfl ?_); refine goesL_ (some 13) rfl rfl Try.func55 (by kernel_rfl) rfl #[.int .u8 (bt a0 x3_1)] rfl (by (try simp only [List.map_toArray, List.map_cons, List.map_nil]); first | done | rfl | (simp only [List.length_drop, List.length_take]; rfl)) ?_; (with_reducible refine (accountingref06_letter.calls (bt a0 x3_1) true _ A5.out).mono ?_); rintro e w' ⟨rfl, ⟨nd, rfl⟩⟩; refine ⟨_, rfl, ?_⟩))
            go_roundg k1
            case measure => have := HK1.out; omega
            case rel => exact ⟨(wrap64 (x3_1 + 1)), (by first | rfl | (simp; done) | (simp [*]; done)), H', ⟨by have := HK1.out; omega⟩, by repeat (first | exact Drawn0.refl _ | apply Drawn0.step)⟩
          · replace c6 := Bool.eq_false_iff.mpr c6
            subst c6
            have H1 : ((accountingref06_digit.f (bt a0 x3_1)).bind fun t116 => (if t116 = true then (accountingref06_Code.l0 k1 a0 (wrap64 (x3_1 + 1))) else (some false))) = some r := by rw [if_neg (show ¬ (false = true) by decide)] at H; exact H
            clear H
            have H := H1
            clear H1
            replace H := Option.bind_eq_some_iff.mp H
            obtain ⟨t116, A80, H⟩ := H
            replace H : (if t116 = true then (accountingref06_Code.l0 k1 a0 (wrap64 (x3_1 + 1))) else (some false)) = some r := H
            have A8 := Aside0.mk A80
            clear A80
            by_cases c9 : t116 = true
            · subst c9
              have H1 : (accountingref06_Code.l0 k1 a0 (wrap64 (x3_1 + 1))) = some r := by rw [if_pos rfl] at H; exact H
              clear H
              have H := H1
              clear H1
              have H' := Aside0.mk H
              clear H
              have p4 : 0 ≤ (x3_1 : Int) := of_decide_eq_true (by first | (with_reducible assumption) | assumption)
              have q4 : x3_1 < (a0.size : Int) := of_decide_eq_true (by first | (with_reducible assumption) | assumption)
              have hx4 := bt_at a0 x3_1
              replace p4 := eq_true p4
              replace q4 := eq_true q4
              go_wp2_with (first | ((with_reducible refine gate_callee (f := 55) rfl ?_); refine goesL_ (some 13) rfl rfl Try.func55 (by kernel_rfl) rfl #[.int .u8 (bt a0 x3_1)] rfl (by (try simp only [List.map_toArray, List.map_cons, List.map_nil]); first | done | rfl | (simp only [List.length_drop, List.length_take]; rfl)) ?_; (with_reducible refine (accountingref06_letter.calls (bt a0 x3_1) false _ A5.out).mono ?_); rintro e w' ⟨rfl, ⟨nd, rfl⟩⟩; refine ⟨_, rfl, ?_⟩; have p7 : 0 ≤ (x3_1 : Int) := of_decide_eq_true (by first | (with_reducible assumption) | assumption); have q7 : x3_1 < (a0.size : Int) := of_decide_eq_true (by first | (with_reducible assumption) | assumption); have hx7 := bt_at a0 x3_1; replace p7 := eq_true p7; replace q7 := eq_true q7) | (go_at_call 56; (with_reducible refine (accountingref06_digit.calls (bt a0 x3_1) true _ A8.out).mono ?_); rintro e w' ⟨rfl, ⟨nd, rfl⟩⟩))
              go_roundg k1
              case measure => have := HK1.out; omega
              case rel => exact ⟨(wrap64 (x3_1 + 1)), (by first | rfl | (simp; done) | (simp [*]; done)), H', ⟨by have := HK1.out; omega⟩, by repeat (first | exact Drawn0.refl _ | apply Drawn0.step)⟩
            · replace c9 := Bool.eq_false_iff.mpr c9
              subst c9
              have H1 : (some false) = some r := by rw [if_neg (show ¬ (false = true) by decide)] at H; exact H
              clear H
              have H := H1
              clear H1
              obtain rfl := Option.some.inj H
              have p4 : 0 ≤ (x3_1 : Int) := of_decide_eq_true (by first | (with_reducible assumption) | assumption)
              have q4 : x3_1 < (a0.size : Int) := of_decide_eq_true (by first | (with_reducible assumption) | assumption)
              have hx4 := bt_at a0 x3_1
              replace p4 := eq_true p4
              replace q4 := eq_true q4
              go_wp2_with (first | ((with_reducible refine gate_callee (f := 55) rfl ?_); refine goesL_ (some 13) rfl rfl Try.func55 (by kernel_rfl) rfl #[.int .u8 (bt a0 x3_1)] rfl (by (try simp only [List.map_toArray, List.map_cons, List.map_nil]); first | done | rfl | (simp only [List.length_drop, List.length_take]; rfl)) ?_; (with_reducible refine (accountingref06_letter.calls (bt a0 x3_1) false _ A5.out).mono ?_); rintro e w' ⟨rfl, ⟨nd, rfl⟩⟩; refine ⟨_, rfl, ?_⟩; have p7 : 0 ≤ (x3_1 : Int) := of_decide_eq_true (by first | (with_reducible assumption) | assumption); have q7 : x3_1 < (a0.size : Int) := of_decide_eq_true (by first | (with_reducible assumption) | assumption); have hx7 := bt_at a0 x3_1; replace p7 := eq_true p7; replace q7 := eq_true q7) | (go_at_call 56; (with_reducible refine (accountingref06_digit.calls (bt a0 x3_1) false _ A8.out).mono ?_); rintro e w' ⟨rfl, ⟨nd, rfl⟩⟩))
              go_ret
              exact ⟨by first | rfl | (simp; done) | (simp [*]; done), by repeat (first | exact Drawn0.refl _ | apply Drawn0.step)⟩
        · rw [if_neg c3] at H
          exact absurd H (by simp)
      · rw [if_neg c2] at H
        have c2b0 : decide (x3_1 < (a0.size : Int)) = false := decide_eq_false c2
        clear c2
        by_cases c10 : (a0.size : Int) ≥ 1
        · rw [if_pos c10] at H
          have c10b0 : decide (1 ≤ (a0.size : Int)) = true := decide_eq_true c10
          have c10b1 : decide (1 ≤ a0.size) = true := decide_eq_true (by omega)
          clear c10
          obtain rfl := Option.some.inj H
          go_wp2
          go_ret
          exact ⟨by first | rfl | (simp; done) | (simp [*]; done), by repeat (first | exact Drawn0.refl _ | apply Drawn0.step)⟩
        · rw [if_neg c10] at H
          have c10b0 : decide (1 ≤ (a0.size : Int)) = false := decide_eq_false c10
          have c10b1 : decide (1 ≤ a0.size) = false := decide_eq_false (by omega)
          clear c10
          obtain rfl := Option.some.inj H
          go_wp2
          go_ret
          exact ⟨by first | rfl | (simp; done) | (simp [*]; done), by repeat (first | exact Drawn0.refl _ | apply Drawn0.step)⟩
/-! ### accountingref15_New: function 12 -/
mutual
def accountingref15_New.j0 : Nat → List (S60) → List ByteArray → Bool → Option (Int)
  | 0, _, _, _ => none
  | k + 1, x0, x1, x15 => if x15 = true then (some 9) else (accountingref15_New.l0 k x0 x1 0)
def accountingref15_New.l0 : Nat → List (S60) → List ByteArray → Int → Option (Int)
  | 0, _, _, _ => none
  | k + 1, x0, x1, x6 => if x6 < (x0.length : Int) then (if 0 ≤ x6 then (if ((rd_T60 x0 x6).f0) < 0 then (some 2) else (if x6 > 0 then (if 0 ≤ (wrap64 (x6 - 1)) then (if (wrap64 (x6 - 1)) < (x0.length : Int) then (if ((rd_T60 x0 x6).f0) ≤ ((rd_T60 x0 (wrap64 (x6 - 1))).f0) then (some 2) else (if ((rd_T60 x0 x6).f1) < 0 then (some 2) else (if ((rd_T60 x0 x6).f1) > 5 then (some 2) else (accountingref15_New.l0 k x0 x1 (wrap64 (x6 + 1)))))) else (none)) else (none)) else (if ((rd_T60 x0 x6).f1) < 0 then (some 2) else (if ((rd_T60 x0 x6).f1) > 5 then (some 2) else (accountingref15_New.l0 k x0 x1 (wrap64 (x6 + 1))))))) else (none)) else (accountingref15_New.l1 k x1 0)
def accountingref15_New.l1 : Nat → List ByteArray → Int → Option (Int)
  | 0, _, _ => none
  | k + 1, x1, x7 => if x7 < (x1.length : Int) then (if 0 ≤ x7 then ((accountingref06_Code.f k (rdOf ByteArray.empty x1 x7)).bind fun t126 => (if t126 = true then (if x7 ≤ (x1.length : Int) then ((accountingref15_has.f k (x1.take (x7 : Int).toNat) (rdOf ByteArray.empty x1 x7)).bind fun t129 => (if t129 = true then (some 8) else (accountingref15_New.l1 k x1 (wrap64 (x7 + 1))))) else (none)) else (some 7))) else (none)) else (some 0)
end
def accountingref15_New.f (k : Nat) (l0 : List (S60)) (l1 : List ByteArray) : Option (Int) := if (l0.length : Int) > 200 then (accountingref15_New.j0 k l0 l1 true) else (accountingref15_New.j0 k l0 l1 (decide ((l1.length : Int) > 200)))
theorem accountingref15_New.mono_l : ∀ k, (∀ y0 y1 y2, LeO (accountingref15_New.j0 k y0 y1 y2) (accountingref15_New.j0 (k + 1) y0 y1 y2)) ∧ (∀ y0 y1 y2, LeO (accountingref15_New.l0 k y0 y1 y2) (accountingref15_New.l0 (k + 1) y0 y1 y2)) ∧ (∀ y0 y1, LeO (accountingref15_New.l1 k y0 y1) (accountingref15_New.l1 (k + 1) y0 y1))
  | 0 => ⟨fun _ _ _ r h => by simp [accountingref15_New.j0] at h, fun _ _ _ r h => by simp [accountingref15_New.l0] at h, fun _ _ r h => by simp [accountingref15_New.l1] at h⟩
  | k + 1 => by
    obtain ⟨ih0, ih1, ih2⟩ := accountingref15_New.mono_l k
    refine ⟨?_, ?_, ?_⟩
    · intro y0 y1 y2
      unfold accountingref15_New.j0
      repeat' first
      | (with_reducible exact ih0 _ _ _)
      | (with_reducible exact ih1 _ _ _)
      | (with_reducible exact ih2 _ _)
      | (with_reducible exact accountingref06_Code.mono _ _)
      | (with_reducible exact accountingref15_has.mono _ _ _)
      | (with_reducible exact LeO.refl _)
      | (with_reducible exact LeO.none _)
      | (with_reducible refine LeO.ite ?_ ?_)
      | (with_reducible refine LeO.bind ?_ (fun _ => ?_))
      | exact ih0 _ _ _
      | exact ih1 _ _ _
      | exact ih2 _ _
      | exact accountingref06_Code.mono _ _
      | exact accountingref15_has.mono _ _ _
      | exact LeO.none _
      | refine LeO.ite ?_ ?_
      | refine LeO.bind ?_ (fun _ => ?_)
    · intro y0 y1 y2
      unfold accountingref15_New.l0
      repeat' first
      | (with_reducible exact ih0 _ _ _)
      | (with_reducible exact ih1 _ _ _)
      | (with_reducible exact ih2 _ _)
      | (with_reducible exact accountingref06_Code.mono _ _)
      | (with_reducible exact accountingref15_has.mono _ _ _)
      | (with_reducible exact LeO.refl _)
      | (with_reducible exact LeO.none _)
      | (with_reducible refine LeO.ite ?_ ?_)
      | (with_reducible refine LeO.bind ?_ (fun _ => ?_))
      | exact ih0 _ _ _
      | exact ih1 _ _ _
      | exact ih2 _ _
      | exact accountingref06_Code.mono _ _
      | exact accountingref15_has.mono _ _ _
      | exact LeO.none _
      | refine LeO.ite ?_ ?_
      | refine LeO.bind ?_ (fun _ => ?_)
    · intro y0 y1
      unfold accountingref15_New.l1
      repeat' first
      | (with_reducible exact ih0 _ _ _)
      | (with_reducible exact ih1 _ _ _)
      | (with_reducible exact ih2 _ _)
      | (with_reducible exact accountingref06_Code.mono _ _)
      | (with_reducible exact accountingref15_has.mono _ _ _)
      | (with_reducible exact LeO.refl _)
      | (with_reducible exact LeO.none _)
      | (with_reducible refine LeO.ite ?_ ?_)
      | (with_reducible refine LeO.bind ?_ (fun _ => ?_))
      | exact ih0 _ _ _
      | exact ih1 _ _ _
      | exact ih2 _ _
      | exact accountingref06_Code.mono _ _
      | exact accountingref15_has.mono _ _ _
      | exact LeO.none _
      | refine LeO.ite ?_ ?_
      | refine LeO.bind ?_ (fun _ => ?_)
theorem accountingref15_New.mono : ∀ a0 a1 k, LeO (accountingref15_New.f k a0 a1) (accountingref15_New.f (k + 1) a0 a1) := by
  intro a0 a1 k
  obtain ⟨ih0, ih1, ih2⟩ := accountingref15_New.mono_l k
  unfold accountingref15_New.f
  repeat' first
      | (with_reducible exact ih0 _ _ _)
      | (with_reducible exact ih1 _ _ _)
      | (with_reducible exact ih2 _ _)
      | (with_reducible exact accountingref06_Code.mono _ _)
      | (with_reducible exact accountingref15_has.mono _ _ _)
      | (with_reducible exact LeO.refl _)
      | (with_reducible exact LeO.none _)
      | (with_reducible refine LeO.ite ?_ ?_)
      | (with_reducible refine LeO.bind ?_ (fun _ => ?_))
      | exact ih0 _ _ _
      | exact ih1 _ _ _
      | exact ih2 _ _
      | exact accountingref06_Code.mono _ _
      | exact accountingref15_has.mono _ _ _
      | exact LeO.none _
      | refine LeO.ite ?_ ?_
      | refine LeO.bind ?_ (fun _ => ?_)
set_option maxHeartbeats 8000000 in
set_option maxRecDepth 100000 in
theorem rnew_calls (k : Nat) (A0 : Option Addr) (c0 : Nat) (l0 : List (S60)) (A1 : Option Addr) (c1 : Nat) (l1 : List ByteArray) (r : Int) (w : World) (hr0 : Kd.C k60 w A0 l0.length l0) (hc0 : l0.length ≤ c0) (hr1 : Kd.C Kd.string w A1 l1.length l1) (hc1 : l1.length ≤ c1) (hlen : r = 0 → l0.length ≤ 200 ∧ l1.length ≤ 200) (h : accountingref15_New.f k l0 l1 = some r) :
    Calls Try.prog 12 #[.slice A0 l0.length c0, .slice A1 l1.length c1] w fun e w' => RPost w w' e r l0 l1 := by
  have HLEN := Aside0.mk hlen
  clear hlen
  have HR0 := Aside0.mk hr0
  have HC0 := Aside0.mk hc0
  clear hr0 hc0
  have HR1 := Aside0.mk hr1
  have HC1 := Aside0.mk hc1
  clear hr1 hc1
  have H : (if (l0.length : Int) > 200 then (accountingref15_New.j0 k l0 l1 true) else (accountingref15_New.j0 k l0 l1 (decide ((l1.length : Int) > 200)))) = some r := h
  clear h
  have HC3 := Aside0.mk H
  clear H
  go_enter Try.func12, Try.ntmps12
  go_upto_region 1 with (fail)
  repeat (go_quiet (fail); go_upto_region 1 with (fail))
  go_cut [15] (fun v15 wc => ∃ (kq : Nat) (x15_2 : Bool), v15 = .bool x15_2 ∧ Aside0 (accountingref15_New.j0 kq l0 l1 x15_2 = some r) ∧ Aside0 (kq ≤ k) ∧ Drawn0 w wc)
  case first =>
    have H := HC3.out
    clear HC3
    by_cases c4 : (l0.length : Int) > 200
    · rw [if_pos c4] at H
      have c4b0 : decide (200 < (l0.length : Int)) = true := decide_eq_true c4
      have c4b1 : decide (200 < l0.length) = true := decide_eq_true (by omega)
      clear c4
      (first | rw [c4b0] | (simp only [i64_w, i32_w]; rw [c4b0]) | skip)
      have H' := Aside0.mk H
      clear H
      go_wp2
      repeat (go_quiet (fail); try go_wp2)
      go_meet
      case rel => exact ⟨_, (true), (by first | rfl | (simp; done) | (simp [*]; done)), H', ⟨by first | omega | exact Nat.le_refl _⟩, by repeat (first | exact Drawn0.refl _ | apply Drawn0.step)⟩
    · rw [if_neg c4] at H
      have c4b0 : decide (200 < (l0.length : Int)) = false := decide_eq_false c4
      have c4b1 : decide (200 < l0.length) = false := decide_eq_false (by omega)
      clear c4
      (first | rw [c4b0] | (simp only [i64_w, i32_w]; rw [c4b0]) | skip)
      have H' := Aside0.mk H
      clear H
      go_wp2
      repeat (go_quiet (fail); try go_wp2)
      go_meet
      case rel => exact ⟨_, (decide ((l1.length : Int) > 200)), (by first | rfl | (simp; done) | (simp [*]; done)), H', ⟨by first | omega | exact Nat.le_refl _⟩, by repeat (first | exact Drawn0.refl _ | apply Drawn0.step)⟩
  case rest =>
    clear HC3
    try clear c1
    try clear p2
    try clear c4
    try clear c4b0
    try clear c4b1
    obtain ⟨kq, x15_2, rfl, HA, HJ2, ⟨mc2, rfl⟩⟩ := hcut
    cases kq with
    | zero => exact absurd HA.out (by simp [accountingref15_New.j0])
    | succ kj2 =>
      have H := HA.out
      clear HA
      simp only [accountingref15_New.j0] at H
      by_cases c5 : x15_2 = true
      · subst c5
        have H1 : (some 9) = some r := by rw [if_pos rfl] at H; exact H
        clear H
        have H := H1
        clear H1
        obtain rfl := Option.some.inj H
        go_wp2
        repeat (go_quiet (fail); try go_wp2)
        go_ret2
        exact RPost.bad (by repeat (first | exact Drawn0.refl _ | apply Drawn0.step)) (by decide)
      · replace c5 := Bool.eq_false_iff.mpr c5
        subst c5
        have H1 : (accountingref15_New.l0 kj2 l0 l1 0) = some r := by rw [if_neg (show ¬ (false = true) by decide)] at H; exact H
        clear H
        have H := H1
        clear H1
        have H' := Aside0.mk H
        clear H
        go_wp2
        repeat (go_quiet (fail); try go_wp2)
        go_loopg [6] kj2 (fun kq v6 w' => ∃ (x6_2 : Int), v6 = .int .i64 x6_2 ∧ Aside0 (accountingref15_New.l0 kq l0 l1 x6_2 = some r) ∧ Aside0 (kq ≤ kj2) ∧ Drawn0 w w')
        case atStart => exact ⟨(0), (by first | rfl | (simp; done) | (simp [*]; done)), H', ⟨Nat.le_refl _⟩, by repeat (first | exact Drawn0.refl _ | apply Drawn0.step)⟩
        case round =>
          clear H'
          try clear c1
          try clear c2
          try clear p2
          try clear c4
          try clear c4b0
          try clear c4b1
          try clear c5
          try clear p2
          obtain ⟨x6_2, rfl, HA, HK2, ⟨m2, rfl⟩⟩ := hrel
          cases gk with
          | zero => exact absurd HA.out (by simp [accountingref15_New.l0])
          | succ k2 =>
            have H := HA.out
            clear HA
            simp only [accountingref15_New.l0] at H
            by_cases c6 : x6_2 < (l0.length : Int)
            · rw [if_pos c6] at H
              have c6b0 : decide (x6_2 < (l0.length : Int)) = true := decide_eq_true c6
              clear c6
              by_cases c7 : 0 ≤ x6_2
              · rw [if_pos c7] at H
                have c7b0 : decide (0 ≤ x6_2) = true := decide_eq_true c7
                clear c7
                by_cases c8 : ((rd_T60 l0 x6_2).f0) < 0
                · rw [if_pos c8] at H
                  have c8b0 : decide (((rd_T60 l0 x6_2).f0) < 0) = true := decide_eq_true c8
                  clear c8
                  obtain rfl := Option.some.inj H
                  have p118 : 0 ≤ (x6_2 : Int) := of_decide_eq_true (by first | (with_reducible assumption) | assumption)
                  have q118 : x6_2 < (l0.length : Int) := of_decide_eq_true (by first | (with_reducible assumption) | assumption)
                  obtain ⟨ad118, e118, hx118_0, hx118_1⟩ := at_T60 HR0.out x6_2 p118 q118
                  cases e118
                  replace p118 := eq_true p118
                  replace q118 := eq_true q118
                  go_wp2
                  repeat (go_quiet (fail); try go_wp2)
                  go_ret2
                  exact RPost.bad (by repeat (first | exact Drawn0.refl _ | apply Drawn0.step)) (by decide)
                · rw [if_neg c8] at H
                  have c8b0 : decide (((rd_T60 l0 x6_2).f0) < 0) = false := decide_eq_false c8
                  clear c8
                  by_cases c9 : x6_2 > 0
                  · rw [if_pos c9] at H
                    have c9b0 : decide (0 < x6_2) = true := decide_eq_true c9
                    clear c9
                    obtain ⟨ji10, hji10⟩ : ∃ j_ : Int, (wrap64 (x6_2 - 1)) = j_ := ⟨_, rfl⟩
                    replace H : (if 0 ≤ (ji10) then (if (ji10) < (l0.length : Int) then (if ((rd_T60 l0 x6_2).f0) ≤ ((rd_T60 l0 (ji10)).f0) then (some 2) else (if ((rd_T60 l0 x6_2).f1) < 0 then (some 2) else (if ((rd_T60 l0 x6_2).f1) > 5 then (some 2) else (accountingref15_New.l0 k2 l0 l1 (wrap64 (x6_2 + 1)))))) else (none)) else (none)) = some r := by first | (rw [hji10] at H; exact H) | (simp only [hji10] at H ⊢; exact H)
                    have hji10w : (IntKind.i64.wrap (x6_2 - 1)) = ji10 := (i64_w _).trans hji10
                    by_cases c11 : 0 ≤ (ji10)
                    · rw [if_pos c11] at H
                      have c11b0 : decide (0 ≤ (ji10)) = true := decide_eq_true c11
                      clear c11
                      by_cases c12 : (ji10) < (l0.length : Int)
                      · rw [if_pos c12] at H
                        have c12b0 : decide ((ji10) < (l0.length : Int)) = true := decide_eq_true c12
                        clear c12
                        by_cases c13 : ((rd_T60 l0 x6_2).f0) ≤ ((rd_T60 l0 (ji10)).f0)
                        · rw [if_pos c13] at H
                          have c13b0 : decide (((rd_T60 l0 x6_2).f0) ≤ ((rd_T60 l0 (ji10)).f0)) = true := decide_eq_true c13
                          clear c13
                          obtain rfl := Option.some.inj H
                          have p118 : 0 ≤ (x6_2 : Int) := of_decide_eq_true (by first | (with_reducible assumption) | assumption)
                          have q118 : x6_2 < (l0.length : Int) := of_decide_eq_true (by first | (with_reducible assumption) | assumption)
                          obtain ⟨ad118, e118, hx118_0, hx118_1⟩ := at_T60 HR0.out x6_2 p118 q118
                          cases e118
                          replace p118 := eq_true p118
                          replace q118 := eq_true q118
                          have p119 : 0 ≤ (x6_2 : Int) := of_decide_eq_true (by first | (with_reducible assumption) | assumption)
                          have q119 : x6_2 < (l0.length : Int) := of_decide_eq_true (by first | (with_reducible assumption) | assumption)
                          obtain ⟨ad119, e119, hx119_0, hx119_1⟩ := at_T60 HR0.out x6_2 p119 q119
                          obtain rfl : ad118 = ad119 := (by injection e119)
                          replace p119 := eq_true p119
                          replace q119 := eq_true q119
                          have p120 : 0 ≤ ((ji10) : Int) := of_decide_eq_true (by first | (with_reducible assumption) | assumption)
                          have q120 : (ji10) < (l0.length : Int) := of_decide_eq_true (by first | (with_reducible assumption) | assumption)
                          obtain ⟨ad120, e120, hx120_0, hx120_1⟩ := at_T60 HR0.out (ji10) p120 q120
                          obtain rfl : ad118 = ad120 := (by injection e120)
                          replace p120 := eq_true p120
                          replace q120 := eq_true q120
                          go_wp2
                          repeat (go_quiet (fail); try go_wp2)
                          go_ret2
                          exact RPost.bad (by repeat (first | exact Drawn0.refl _ | apply Drawn0.step)) (by decide)
                        · rw [if_neg c13] at H
                          have c13b0 : decide (((rd_T60 l0 x6_2).f0) ≤ ((rd_T60 l0 (ji10)).f0)) = false := decide_eq_false c13
                          clear c13
                          by_cases c14 : ((rd_T60 l0 x6_2).f1) < 0
                          · rw [if_pos c14] at H
                            have c14b0 : decide (((rd_T60 l0 x6_2).f1) < 0) = true := decide_eq_true c14
                            clear c14
                            obtain rfl := Option.some.inj H
                            have p118 : 0 ≤ (x6_2 : Int) := of_decide_eq_true (by first | (with_reducible assumption) | assumption)
                            have q118 : x6_2 < (l0.length : Int) := of_decide_eq_true (by first | (with_reducible assumption) | assumption)
                            obtain ⟨ad118, e118, hx118_0, hx118_1⟩ := at_T60 HR0.out x6_2 p118 q118
                            cases e118
                            replace p118 := eq_true p118
                            replace q118 := eq_true q118
                            have p119 : 0 ≤ (x6_2 : Int) := of_decide_eq_true (by first | (with_reducible assumption) | assumption)
                            have q119 : x6_2 < (l0.length : Int) := of_decide_eq_true (by first | (with_reducible assumption) | assumption)
                            obtain ⟨ad119, e119, hx119_0, hx119_1⟩ := at_T60 HR0.out x6_2 p119 q119
                            obtain rfl : ad118 = ad119 := (by injection e119)
                            replace p119 := eq_true p119
                            replace q119 := eq_true q119
                            have p120 : 0 ≤ ((ji10) : Int) := of_decide_eq_true (by first | (with_reducible assumption) | assumption)
                            have q120 : (ji10) < (l0.length : Int) := of_decide_eq_true (by first | (with_reducible assumption) | assumption)
                            obtain ⟨ad120, e120, hx120_0, hx120_1⟩ := at_T60 HR0.out (ji10) p120 q120
                            obtain rfl : ad118 = ad120 := (by injection e120)
                            replace p120 := eq_true p120
                            replace q120 := eq_true q120
                            have p121 : 0 ≤ (x6_2 : Int) := of_decide_eq_true (by first | (with_reducible assumption) | assumption)
                            have q121 : x6_2 < (l0.length : Int) := of_decide_eq_true (by first | (with_reducible assumption) | assumption)
                            obtain ⟨ad121, e121, hx121_0, hx121_1⟩ := at_T60 HR0.out x6_2 p121 q121
                            obtain rfl : ad118 = ad121 := (by injection e121)
                            replace p121 := eq_true p121
                            replace q121 := eq_true q121
                            go_wp2
                            repeat (go_quiet (fail); try go_wp2)
                            go_ret2
                            exact RPost.bad (by repeat (first | exact Drawn0.refl _ | apply Drawn0.step)) (by decide)
                          · rw [if_neg c14] at H
                            have c14b0 : decide (((rd_T60 l0 x6_2).f1) < 0) = false := decide_eq_false c14
                            clear c14
                            by_cases c15 : ((rd_T60 l0 x6_2).f1) > 5
                            · rw [if_pos c15] at H
                              have c15b0 : decide (5 < ((rd_T60 l0 x6_2).f1)) = true := decide_eq_true c15
                              clear c15
                              obtain rfl := Option.some.inj H
                              have p118 : 0 ≤ (x6_2 : Int) := of_decide_eq_true (by first | (with_reducible assumption) | assumption)
                              have q118 : x6_2 < (l0.length : Int) := of_decide_eq_true (by first | (with_reducible assumption) | assumption)
                              obtain ⟨ad118, e118, hx118_0, hx118_1⟩ := at_T60 HR0.out x6_2 p118 q118
                              cases e118
                              replace p118 := eq_true p118
                              replace q118 := eq_true q118
                              have p119 : 0 ≤ (x6_2 : Int) := of_decide_eq_true (by first | (with_reducible assumption) | assumption)
                              have q119 : x6_2 < (l0.length : Int) := of_decide_eq_true (by first | (with_reducible assumption) | assumption)
                              obtain ⟨ad119, e119, hx119_0, hx119_1⟩ := at_T60 HR0.out x6_2 p119 q119
                              obtain rfl : ad118 = ad119 := (by injection e119)
                              replace p119 := eq_true p119
                              replace q119 := eq_true q119
                              have p120 : 0 ≤ ((ji10) : Int) := of_decide_eq_true (by first | (with_reducible assumption) | assumption)
                              have q120 : (ji10) < (l0.length : Int) := of_decide_eq_true (by first | (with_reducible assumption) | assumption)
                              obtain ⟨ad120, e120, hx120_0, hx120_1⟩ := at_T60 HR0.out (ji10) p120 q120
                              obtain rfl : ad118 = ad120 := (by injection e120)
                              replace p120 := eq_true p120
                              replace q120 := eq_true q120
                              have p121 : 0 ≤ (x6_2 : Int) := of_decide_eq_true (by first | (with_reducible assumption) | assumption)
                              have q121 : x6_2 < (l0.length : Int) := of_decide_eq_true (by first | (with_reducible assumption) | assumption)
                              obtain ⟨ad121, e121, hx121_0, hx121_1⟩ := at_T60 HR0.out x6_2 p121 q121
                              obtain rfl : ad118 = ad121 := (by injection e121)
                              replace p121 := eq_true p121
                              replace q121 := eq_true q121
                              have p122 : 0 ≤ (x6_2 : Int) := of_decide_eq_true (by first | (with_reducible assumption) | assumption)
                              have q122 : x6_2 < (l0.length : Int) := of_decide_eq_true (by first | (with_reducible assumption) | assumption)
                              obtain ⟨ad122, e122, hx122_0, hx122_1⟩ := at_T60 HR0.out x6_2 p122 q122
                              obtain rfl : ad118 = ad122 := (by injection e122)
                              replace p122 := eq_true p122
                              replace q122 := eq_true q122
                              go_wp2
                              repeat (go_quiet (fail); try go_wp2)
                              go_ret2
                              exact RPost.bad (by repeat (first | exact Drawn0.refl _ | apply Drawn0.step)) (by decide)
                            · rw [if_neg c15] at H
                              have c15b0 : decide (5 < ((rd_T60 l0 x6_2).f1)) = false := decide_eq_false c15
                              clear c15
                              have H' := Aside0.mk H
                              clear H
                              have p118 : 0 ≤ (x6_2 : Int) := of_decide_eq_true (by first | (with_reducible assumption) | assumption)
                              have q118 : x6_2 < (l0.length : Int) := of_decide_eq_true (by first | (with_reducible assumption) | assumption)
                              obtain ⟨ad118, e118, hx118_0, hx118_1⟩ := at_T60 HR0.out x6_2 p118 q118
                              cases e118
                              replace p118 := eq_true p118
                              replace q118 := eq_true q118
                              have p119 : 0 ≤ (x6_2 : Int) := of_decide_eq_true (by first | (with_reducible assumption) | assumption)
                              have q119 : x6_2 < (l0.length : Int) := of_decide_eq_true (by first | (with_reducible assumption) | assumption)
                              obtain ⟨ad119, e119, hx119_0, hx119_1⟩ := at_T60 HR0.out x6_2 p119 q119
                              obtain rfl : ad118 = ad119 := (by injection e119)
                              replace p119 := eq_true p119
                              replace q119 := eq_true q119
                              have p120 : 0 ≤ ((ji10) : Int) := of_decide_eq_true (by first | (with_reducible assumption) | assumption)
                              have q120 : (ji10) < (l0.length : Int) := of_decide_eq_true (by first | (with_reducible assumption) | assumption)
                              obtain ⟨ad120, e120, hx120_0, hx120_1⟩ := at_T60 HR0.out (ji10) p120 q120
                              obtain rfl : ad118 = ad120 := (by injection e120)
                              replace p120 := eq_true p120
                              replace q120 := eq_true q120
                              have p121 : 0 ≤ (x6_2 : Int) := of_decide_eq_true (by first | (with_reducible assumption) | assumption)
                              have q121 : x6_2 < (l0.length : Int) := of_decide_eq_true (by first | (with_reducible assumption) | assumption)
                              obtain ⟨ad121, e121, hx121_0, hx121_1⟩ := at_T60 HR0.out x6_2 p121 q121
                              obtain rfl : ad118 = ad121 := (by injection e121)
                              replace p121 := eq_true p121
                              replace q121 := eq_true q121
                              have p122 : 0 ≤ (x6_2 : Int) := of_decide_eq_true (by first | (with_reducible assumption) | assumption)
                              have q122 : x6_2 < (l0.length : Int) := of_decide_eq_true (by first | (with_reducible assumption) | assumption)
                              obtain ⟨ad122, e122, hx122_0, hx122_1⟩ := at_T60 HR0.out x6_2 p122 q122
                              obtain rfl : ad118 = ad122 := (by injection e122)
                              replace p122 := eq_true p122
                              replace q122 := eq_true q122
                              go_wp2
                              repeat (go_quiet (fail); try go_wp2)
                              go_roundg k2
                              case measure => have := HJ2.out; have := HK2.out; omega
                              case rel => exact ⟨(wrap64 (x6_2 + 1)), (by first | rfl | (simp; done) | (simp [*]; done)), H', ⟨by have := HJ2.out; have := HK2.out; omega⟩, by repeat (first | exact Drawn0.refl _ | apply Drawn0.step)⟩
                      · rw [if_neg c12] at H
                        exact absurd H (by simp)
                    · rw [if_neg c11] at H
                      exact absurd H (by simp)
                  · rw [if_neg c9] at H
                    have c9b0 : decide (0 < x6_2) = false := decide_eq_false c9
                    clear c9
                    by_cases c16 : ((rd_T60 l0 x6_2).f1) < 0
                    · rw [if_pos c16] at H
                      have c16b0 : decide (((rd_T60 l0 x6_2).f1) < 0) = true := decide_eq_true c16
                      clear c16
                      obtain rfl := Option.some.inj H
                      have p118 : 0 ≤ (x6_2 : Int) := of_decide_eq_true (by first | (with_reducible assumption) | assumption)
                      have q118 : x6_2 < (l0.length : Int) := of_decide_eq_true (by first | (with_reducible assumption) | assumption)
                      obtain ⟨ad118, e118, hx118_0, hx118_1⟩ := at_T60 HR0.out x6_2 p118 q118
                      cases e118
                      replace p118 := eq_true p118
                      replace q118 := eq_true q118
                      have p123 : 0 ≤ (x6_2 : Int) := of_decide_eq_true (by first | (with_reducible assumption) | assumption)
                      have q123 : x6_2 < (l0.length : Int) := of_decide_eq_true (by first | (with_reducible assumption) | assumption)
                      obtain ⟨ad123, e123, hx123_0, hx123_1⟩ := at_T60 HR0.out x6_2 p123 q123
                      obtain rfl : ad118 = ad123 := (by injection e123)
                      replace p123 := eq_true p123
                      replace q123 := eq_true q123
                      go_wp2
                      repeat (go_quiet (fail); try go_wp2)
                      go_ret2
                      exact RPost.bad (by repeat (first | exact Drawn0.refl _ | apply Drawn0.step)) (by decide)
                    · rw [if_neg c16] at H
                      have c16b0 : decide (((rd_T60 l0 x6_2).f1) < 0) = false := decide_eq_false c16
                      clear c16
                      by_cases c17 : ((rd_T60 l0 x6_2).f1) > 5
                      · rw [if_pos c17] at H
                        have c17b0 : decide (5 < ((rd_T60 l0 x6_2).f1)) = true := decide_eq_true c17
                        clear c17
                        obtain rfl := Option.some.inj H
                        have p118 : 0 ≤ (x6_2 : Int) := of_decide_eq_true (by first | (with_reducible assumption) | assumption)
                        have q118 : x6_2 < (l0.length : Int) := of_decide_eq_true (by first | (with_reducible assumption) | assumption)
                        obtain ⟨ad118, e118, hx118_0, hx118_1⟩ := at_T60 HR0.out x6_2 p118 q118
                        cases e118
                        replace p118 := eq_true p118
                        replace q118 := eq_true q118
                        have p123 : 0 ≤ (x6_2 : Int) := of_decide_eq_true (by first | (with_reducible assumption) | assumption)
                        have q123 : x6_2 < (l0.length : Int) := of_decide_eq_true (by first | (with_reducible assumption) | assumption)
                        obtain ⟨ad123, e123, hx123_0, hx123_1⟩ := at_T60 HR0.out x6_2 p123 q123
                        obtain rfl : ad118 = ad123 := (by injection e123)
                        replace p123 := eq_true p123
                        replace q123 := eq_true q123
                        have p124 : 0 ≤ (x6_2 : Int) := of_decide_eq_true (by first | (with_reducible assumption) | assumption)
                        have q124 : x6_2 < (l0.length : Int) := of_decide_eq_true (by first | (with_reducible assumption) | assumption)
                        obtain ⟨ad124, e124, hx124_0, hx124_1⟩ := at_T60 HR0.out x6_2 p124 q124
                        obtain rfl : ad118 = ad124 := (by injection e124)
                        replace p124 := eq_true p124
                        replace q124 := eq_true q124
                        go_wp2
                        repeat (go_quiet (fail); try go_wp2)
                        go_ret2
                        exact RPost.bad (by repeat (first | exact Drawn0.refl _ | apply Drawn0.step)) (by decide)
                      · rw [if_neg c17] at H
                        have c17b0 : decide (5 < ((rd_T60 l0 x6_2).f1)) = false := decide_eq_false c17
                        clear c17
                        have H' := Aside0.mk H
                        clear H
                        have p118 : 0 ≤ (x6_2 : Int) := of_decide_eq_true (by first | (with_reducible assumption) | assumption)
                        have q118 : x6_2 < (l0.length : Int) := of_decide_eq_true (by first | (with_reducible assumption) | assumption)
                        obtain ⟨ad118, e118, hx118_0, hx118_1⟩ := at_T60 HR0.out x6_2 p118 q118
                        cases e118
                        replace p118 := eq_true p118
                        replace q118 := eq_true q118
                        have p123 : 0 ≤ (x6_2 : Int) := of_decide_eq_true (by first | (with_reducible assumption) | assumption)
                        have q123 : x6_2 < (l0.length : Int) := of_decide_eq_true (by first | (with_reducible assumption) | assumption)
                        obtain ⟨ad123, e123, hx123_0, hx123_1⟩ := at_T60 HR0.out x6_2 p123 q123
                        obtain rfl : ad118 = ad123 := (by injection e123)
                        replace p123 := eq_true p123
                        replace q123 := eq_true q123
                        have p124 : 0 ≤ (x6_2 : Int) := of_decide_eq_true (by first | (with_reducible assumption) | assumption)
                        have q124 : x6_2 < (l0.length : Int) := of_decide_eq_true (by first | (with_reducible assumption) | assumption)
                        obtain ⟨ad124, e124, hx124_0, hx124_1⟩ := at_T60 HR0.out x6_2 p124 q124
                        obtain rfl : ad118 = ad124 := (by injection e124)
                        replace p124 := eq_true p124
                        replace q124 := eq_true q124
                        go_wp2
                        repeat (go_quiet (fail); try go_wp2)
                        go_roundg k2
                        case measure => have := HJ2.out; have := HK2.out; omega
                        case rel => exact ⟨(wrap64 (x6_2 + 1)), (by first | rfl | (simp; done) | (simp [*]; done)), H', ⟨by have := HJ2.out; have := HK2.out; omega⟩, by repeat (first | exact Drawn0.refl _ | apply Drawn0.step)⟩
              · rw [if_neg c7] at H
                exact absurd H (by simp)
            · rw [if_neg c6] at H
              have c6b0 : decide (x6_2 < (l0.length : Int)) = false := decide_eq_false c6
              clear c6
              have H' := Aside0.mk H
              clear H
              go_wp2
              repeat (go_quiet (fail); try go_wp2)
              go_loopg [7] k2 (fun kq v7 w' => ∃ (x7_3 : Int), v7 = .int .i64 x7_3 ∧ Aside0 (accountingref15_New.l1 kq l1 x7_3 = some r) ∧ Aside0 (kq ≤ k2) ∧ Drawn0 w w')
              case atStart => exact ⟨(0), (by first | rfl | (simp; done) | (simp [*]; done)), H', ⟨Nat.le_refl _⟩, by repeat (first | exact Drawn0.refl _ | apply Drawn0.step)⟩
              case round =>
                clear H'
                try clear c1
                try clear p1
                try clear q1
                try clear hx1
                try clear c2
                try clear p2
                try clear c4
                try clear c4b0
                try clear c4b1
                try clear c5
                try clear c6
                try clear c6b0
                try clear p6
                try clear c7
                try clear c7b0
                try clear c8
                try clear c8b0
                try clear c9
                try clear c9b0
                try clear c11
                try clear c11b0
                try clear p11
                try clear q11
                try clear hx11
                try clear c12
                try clear c12b0
                try clear p12
                try clear q12
                try clear hx12
                try clear c13
                try clear c13b0
                try clear c14
                try clear c14b0
                try clear c15
                try clear c15b0
                try clear c16
                try clear c16b0
                try clear c17
                try clear c17b0
                try clear hx118_0
                try clear hx118_1
                try clear hx119_0
                try clear hx119_1
                try clear hx120_0
                try clear hx120_1
                try clear hx121_0
                try clear hx121_1
                try clear hx122_0
                try clear hx122_1
                try clear hx123_0
                try clear hx123_1
                try clear hx124_0
                try clear hx124_1
                try clear p118
                try clear p119
                try clear p120
                try clear p121
                try clear p122
                try clear p123
                try clear p124
                try clear p2
                try clear q118
                try clear q119
                try clear q120
                try clear q121
                try clear q122
                try clear q123
                try clear q124
                obtain ⟨x7_3, rfl, HA, HK3, ⟨m3, rfl⟩⟩ := hrel
                cases gk with
                | zero => exact absurd HA.out (by simp [accountingref15_New.l1])
                | succ k3 =>
                  have H := HA.out
                  clear HA
                  simp only [accountingref15_New.l1] at H
                  by_cases c18 : x7_3 < (l1.length : Int)
                  · rw [if_pos c18] at H
                    have c18b0 : decide (x7_3 < (l1.length : Int)) = true := decide_eq_true c18
                    clear c18
                    by_cases c19 : 0 ≤ x7_3
                    · rw [if_pos c19] at H
                      have c19b0 : decide (0 ≤ x7_3) = true := decide_eq_true c19
                      clear c19
                      replace H := Option.bind_eq_some_iff.mp H
                      obtain ⟨t126, A200, H⟩ := H
                      replace H : (if t126 = true then (if x7_3 ≤ (l1.length : Int) then ((accountingref15_has.f k3 (l1.take (x7_3 : Int).toNat) (rdOf ByteArray.empty l1 x7_3)).bind fun t129 => (if t129 = true then (some 8) else (accountingref15_New.l1 k3 l1 (wrap64 (x7_3 + 1))))) else (none)) else (some 7)) = some r := H
                      have A20 := Aside0.mk A200
                      clear A200
                      by_cases c21 : t126 = true
                      · subst c21
                        have H1 : (if x7_3 ≤ (l1.length : Int) then ((accountingref15_has.f k3 (l1.take (x7_3 : Int).toNat) (rdOf ByteArray.empty l1 x7_3)).bind fun t129 => (if t129 = true then (some 8) else (accountingref15_New.l1 k3 l1 (wrap64 (x7_3 + 1))))) else (none)) = some r := by rw [if_pos rfl] at H; exact H
                        clear H
                        have H := H1
                        clear H1
                        have c22b0 := eq_true (of_decide_eq_true (by first | (with_reducible assumption) | assumption) : 0 ≤ x7_3)
                        by_cases c23 : x7_3 ≤ (l1.length : Int)
                        · rw [if_pos c23] at H
                          have c23b0 := eq_true c23
                          have c23b1 : decide (x7_3 ≤ (l1.length : Int)) = true := decide_eq_true c23
                          clear c23
                          replace H := Option.bind_eq_some_iff.mp H
                          obtain ⟨t129, A240, H⟩ := H
                          replace H : (if t129 = true then (some 8) else (accountingref15_New.l1 k3 l1 (wrap64 (x7_3 + 1)))) = some r := H
                          have A24 := Aside0.mk A240
                          clear A240
                          by_cases c25 : t129 = true
                          · subst c25
                            have H1 : (some 8) = some r := by rw [if_pos rfl] at H; exact H
                            clear H
                            have H := H1
                            clear H1
                            obtain rfl := Option.some.inj H
                            have p125 : 0 ≤ (x7_3 : Int) := of_decide_eq_true (by first | (with_reducible assumption) | assumption)
                            have q125 : x7_3 < (l1.length : Int) := of_decide_eq_true (by first | (with_reducible assumption) | assumption)
                            obtain ⟨ad125, e125, hx125_0⟩ := Kd.at_string HR1.out x7_3 p125 q125
                            cases e125
                            replace p125 := eq_true p125
                            replace q125 := eq_true q125
                            go_wp2_with (first | (go_at_call 34; (with_reducible refine (accountingref06_Code.calls k3 (rdOf ByteArray.empty l1 x7_3) true _ A20.out).mono ?_); rintro e w' ⟨rfl, ⟨nd, rfl⟩⟩; (try first | exact ⟨rfl, _, World.drewN_drewN _ _ _⟩ | exact ⟨rfl, _, Eq.trans (World.drewN_drewN _ _ _) (congrArg (World.drewN _) (Nat.add_assoc _ _ _))⟩); obtain ⟨i026, hi026, _, hsz26, _⟩ := info_parts info9; obtain ⟨hcut26, hA26, hC26⟩ := print_take_of (P := Try.prog) Value.string (⟨#[]⟩ : ByteArray) 23 9 .i64 Try.underlying23 hi026 hsz26 (some ad125) c1 l1 x7_3 (of_decide_eq_true (by first | (with_reducible assumption) | assumption)) (of_decide_eq_true (by first | (with_reducible assumption) | assumption)) HC1.out; have HR127 := Aside0.mk (Kd.C_of_reads (h1 := fun _ => rfl) (hA26 _ (Kd.reads_of_C HR1.out))); have HC127 := Aside0.mk hC26; clear hA26 hC26 hi026 hsz26; have p128 : 0 ≤ (x7_3 : Int) := of_decide_eq_true (by first | (with_reducible assumption) | assumption); have q128 : x7_3 < (l1.length : Int) := of_decide_eq_true (by first | (with_reducible assumption) | assumption); obtain ⟨ad128, e128, hx128_0⟩ := Kd.at_string HR1.out x7_3 p128 q128; obtain rfl : ad125 = ad128 := (by injection e128); replace p128 := eq_true p128; replace q128 := eq_true q128) | (go_at_call 35; (with_reducible refine (has_take k3 _ _ l1 (x7_3 : Int).toNat (by have := of_eq_true q128; omega) (rdOf ByteArray.empty l1 x7_3) true _ ?side1 ?side2 A24.out).mono ?_); (case side1 => repeat (first | exact HR127.out | (with_reducible refine Kd.C_alloc ?_ _) | (with_reducible refine Kd.C_drewN ?_ _) | (with_reducible refine Kd.C_drew ?_))); (case side2 => exact HC127.out); rintro e w' ⟨rfl, ⟨nd, rfl⟩⟩; (try first | exact ⟨rfl, _, World.drewN_drewN _ _ _⟩ | exact ⟨rfl, _, Eq.trans (World.drewN_drewN _ _ _) (congrArg (World.drewN _) (Nat.add_assoc _ _ _))⟩)))
                            repeat (go_quiet (first | (go_at_call 34; (with_reducible refine (accountingref06_Code.calls k3 (rdOf ByteArray.empty l1 x7_3) true _ A20.out).mono ?_); rintro e w' ⟨rfl, ⟨nd, rfl⟩⟩; (try first | exact ⟨rfl, _, World.drewN_drewN _ _ _⟩ | exact ⟨rfl, _, Eq.trans (World.drewN_drewN _ _ _) (congrArg (World.drewN _) (Nat.add_assoc _ _ _))⟩); obtain ⟨i026, hi026, _, hsz26, _⟩ := info_parts info9; obtain ⟨hcut26, hA26, hC26⟩ := print_take_of (P := Try.prog) Value.string (⟨#[]⟩ : ByteArray) 23 9 .i64 Try.underlying23 hi026 hsz26 (some ad125) c1 l1 x7_3 (of_decide_eq_true (by first | (with_reducible assumption) | assumption)) (of_decide_eq_true (by first | (with_reducible assumption) | assumption)) HC1.out; have HR127 := Aside0.mk (Kd.C_of_reads (h1 := fun _ => rfl) (hA26 _ (Kd.reads_of_C HR1.out))); have HC127 := Aside0.mk hC26; clear hA26 hC26 hi026 hsz26; have p128 : 0 ≤ (x7_3 : Int) := of_decide_eq_true (by first | (with_reducible assumption) | assumption); have q128 : x7_3 < (l1.length : Int) := of_decide_eq_true (by first | (with_reducible assumption) | assumption); obtain ⟨ad128, e128, hx128_0⟩ := Kd.at_string HR1.out x7_3 p128 q128; obtain rfl : ad125 = ad128 := (by injection e128); replace p128 := eq_true p128; replace q128 := eq_true q128) | (go_at_call 35; (with_reducible refine (has_take k3 _ _ l1 (x7_3 : Int).toNat (by have := of_eq_true q128; omega) (rdOf ByteArray.empty l1 x7_3) true _ ?side1 ?side2 A24.out).mono ?_); (case side1 => repeat (first | exact HR127.out | (with_reducible refine Kd.C_alloc ?_ _) | (with_reducible refine Kd.C_drewN ?_ _) | (with_reducible refine Kd.C_drew ?_))); (case side2 => exact HC127.out); rintro e w' ⟨rfl, ⟨nd, rfl⟩⟩; (try first | exact ⟨rfl, _, World.drewN_drewN _ _ _⟩ | exact ⟨rfl, _, Eq.trans (World.drewN_drewN _ _ _) (congrArg (World.drewN _) (Nat.add_assoc _ _ _))⟩))); try go_wp2_with (first | (go_at_call 34; (with_reducible refine (accountingref06_Code.calls k3 (rdOf ByteArray.empty l1 x7_3) true _ A20.out).mono ?_); rintro e w' ⟨rfl, ⟨nd, rfl⟩⟩; (try first | exact ⟨rfl, _, World.drewN_drewN _ _ _⟩ | exact ⟨rfl, _, Eq.trans (World.drewN_drewN _ _ _) (congrArg (World.drewN _) (Nat.add_assoc _ _ _))⟩); obtain ⟨i026, hi026, _, hsz26, _⟩ := info_parts info9; obtain ⟨hcut26, hA26, hC26⟩ := print_take_of (P := Try.prog) Value.string (⟨#[]⟩ : ByteArray) 23 9 .i64 Try.underlying23 hi026 hsz26 (some ad125) c1 l1 x7_3 (of_decide_eq_true (by first | (with_reducible assumption) | assumption)) (of_decide_eq_true (by first | (with_reducible assumption) | assumption)) HC1.out; have HR127 := Aside0.mk (Kd.C_of_reads (h1 := fun _ => rfl) (hA26 _ (Kd.reads_of_C HR1.out))); have HC127 := Aside0.mk hC26; clear hA26 hC26 hi026 hsz26; have p128 : 0 ≤ (x7_3 : Int) := of_decide_eq_true (by first | (with_reducible assumption) | assumption); have q128 : x7_3 < (l1.length : Int) := of_decide_eq_true (by first | (with_reducible assumption) | assumption); obtain ⟨ad128, e128, hx128_0⟩ := Kd.at_string HR1.out x7_3 p128 q128; obtain rfl : ad125 = ad128 := (by injection e128); replace p128 := eq_true p128; replace q128 := eq_true q128) | (go_at_call 35; (with_reducible refine (has_take k3 _ _ l1 (x7_3 : Int).toNat (by have := of_eq_true q128; omega) (rdOf ByteArray.empty l1 x7_3) true _ ?side1 ?side2 A24.out).mono ?_); (case side1 => repeat (first | exact HR127.out | (with_reducible refine Kd.C_alloc ?_ _) | (with_reducible refine Kd.C_drewN ?_ _) | (with_reducible refine Kd.C_drew ?_))); (case side2 => exact HC127.out); rintro e w' ⟨rfl, ⟨nd, rfl⟩⟩; (try first | exact ⟨rfl, _, World.drewN_drewN _ _ _⟩ | exact ⟨rfl, _, Eq.trans (World.drewN_drewN _ _ _) (congrArg (World.drewN _) (Nat.add_assoc _ _ _))⟩))))
                            go_ret2
                            exact RPost.bad (by repeat (first | exact Drawn0.refl _ | apply Drawn0.step)) (by decide)
                          · replace c25 := Bool.eq_false_iff.mpr c25
                            subst c25
                            have H1 : (accountingref15_New.l1 k3 l1 (wrap64 (x7_3 + 1))) = some r := by rw [if_neg (show ¬ (false = true) by decide)] at H; exact H
                            clear H
                            have H := H1
                            clear H1
                            have H' := Aside0.mk H
                            clear H
                            have p125 : 0 ≤ (x7_3 : Int) := of_decide_eq_true (by first | (with_reducible assumption) | assumption)
                            have q125 : x7_3 < (l1.length : Int) := of_decide_eq_true (by first | (with_reducible assumption) | assumption)
                            obtain ⟨ad125, e125, hx125_0⟩ := Kd.at_string HR1.out x7_3 p125 q125
                            cases e125
                            replace p125 := eq_true p125
                            replace q125 := eq_true q125
                            go_wp2_with (first | (go_at_call 34; (with_reducible refine (accountingref06_Code.calls k3 (rdOf ByteArray.empty l1 x7_3) true _ A20.out).mono ?_); rintro e w' ⟨rfl, ⟨nd, rfl⟩⟩; (try first | exact ⟨rfl, _, World.drewN_drewN _ _ _⟩ | exact ⟨rfl, _, Eq.trans (World.drewN_drewN _ _ _) (congrArg (World.drewN _) (Nat.add_assoc _ _ _))⟩); obtain ⟨i027, hi027, _, hsz27, _⟩ := info_parts info9; obtain ⟨hcut27, hA27, hC27⟩ := print_take_of (P := Try.prog) Value.string (⟨#[]⟩ : ByteArray) 23 9 .i64 Try.underlying23 hi027 hsz27 (some ad125) c1 l1 x7_3 (of_decide_eq_true (by first | (with_reducible assumption) | assumption)) (of_decide_eq_true (by first | (with_reducible assumption) | assumption)) HC1.out; have HR127 := Aside0.mk (Kd.C_of_reads (h1 := fun _ => rfl) (hA27 _ (Kd.reads_of_C HR1.out))); have HC127 := Aside0.mk hC27; clear hA27 hC27 hi027 hsz27; have p128 : 0 ≤ (x7_3 : Int) := of_decide_eq_true (by first | (with_reducible assumption) | assumption); have q128 : x7_3 < (l1.length : Int) := of_decide_eq_true (by first | (with_reducible assumption) | assumption); obtain ⟨ad128, e128, hx128_0⟩ := Kd.at_string HR1.out x7_3 p128 q128; obtain rfl : ad125 = ad128 := (by injection e128); replace p128 := eq_true p128; replace q128 := eq_true q128) | (go_at_call 35; (with_reducible refine (has_take k3 _ _ l1 (x7_3 : Int).toNat (by have := of_eq_true q128; omega) (rdOf ByteArray.empty l1 x7_3) false _ ?side1 ?side2 A24.out).mono ?_); (case side1 => repeat (first | exact HR127.out | (with_reducible refine Kd.C_alloc ?_ _) | (with_reducible refine Kd.C_drewN ?_ _) | (with_reducible refine Kd.C_drew ?_))); (case side2 => exact HC127.out); rintro e w' ⟨rfl, ⟨nd, rfl⟩⟩; (try first | exact ⟨rfl, _, World.drewN_drewN _ _ _⟩ | exact ⟨rfl, _, Eq.trans (World.drewN_drewN _ _ _) (congrArg (World.drewN _) (Nat.add_assoc _ _ _))⟩)))
                            repeat (go_quiet (first | (go_at_call 34; (with_reducible refine (accountingref06_Code.calls k3 (rdOf ByteArray.empty l1 x7_3) true _ A20.out).mono ?_); rintro e w' ⟨rfl, ⟨nd, rfl⟩⟩; (try first | exact ⟨rfl, _, World.drewN_drewN _ _ _⟩ | exact ⟨rfl, _, Eq.trans (World.drewN_drewN _ _ _) (congrArg (World.drewN _) (Nat.add_assoc _ _ _))⟩); obtain ⟨i027, hi027, _, hsz27, _⟩ := info_parts info9; obtain ⟨hcut27, hA27, hC27⟩ := print_take_of (P := Try.prog) Value.string (⟨#[]⟩ : ByteArray) 23 9 .i64 Try.underlying23 hi027 hsz27 (some ad125) c1 l1 x7_3 (of_decide_eq_true (by first | (with_reducible assumption) | assumption)) (of_decide_eq_true (by first | (with_reducible assumption) | assumption)) HC1.out; have HR127 := Aside0.mk (Kd.C_of_reads (h1 := fun _ => rfl) (hA27 _ (Kd.reads_of_C HR1.out))); have HC127 := Aside0.mk hC27; clear hA27 hC27 hi027 hsz27; have p128 : 0 ≤ (x7_3 : Int) := of_decide_eq_true (by first | (with_reducible assumption) | assumption); have q128 : x7_3 < (l1.length : Int) := of_decide_eq_true (by first | (with_reducible assumption) | assumption); obtain ⟨ad128, e128, hx128_0⟩ := Kd.at_string HR1.out x7_3 p128 q128; obtain rfl : ad125 = ad128 := (by injection e128); replace p128 := eq_true p128; replace q128 := eq_true q128) | (go_at_call 35; (with_reducible refine (has_take k3 _ _ l1 (x7_3 : Int).toNat (by have := of_eq_true q128; omega) (rdOf ByteArray.empty l1 x7_3) false _ ?side1 ?side2 A24.out).mono ?_); (case side1 => repeat (first | exact HR127.out | (with_reducible refine Kd.C_alloc ?_ _) | (with_reducible refine Kd.C_drewN ?_ _) | (with_reducible refine Kd.C_drew ?_))); (case side2 => exact HC127.out); rintro e w' ⟨rfl, ⟨nd, rfl⟩⟩; (try first | exact ⟨rfl, _, World.drewN_drewN _ _ _⟩ | exact ⟨rfl, _, Eq.trans (World.drewN_drewN _ _ _) (congrArg (World.drewN _) (Nat.add_assoc _ _ _))⟩))); try go_wp2_with (first | (go_at_call 34; (with_reducible refine (accountingref06_Code.calls k3 (rdOf ByteArray.empty l1 x7_3) true _ A20.out).mono ?_); rintro e w' ⟨rfl, ⟨nd, rfl⟩⟩; (try first | exact ⟨rfl, _, World.drewN_drewN _ _ _⟩ | exact ⟨rfl, _, Eq.trans (World.drewN_drewN _ _ _) (congrArg (World.drewN _) (Nat.add_assoc _ _ _))⟩); obtain ⟨i027, hi027, _, hsz27, _⟩ := info_parts info9; obtain ⟨hcut27, hA27, hC27⟩ := print_take_of (P := Try.prog) Value.string (⟨#[]⟩ : ByteArray) 23 9 .i64 Try.underlying23 hi027 hsz27 (some ad125) c1 l1 x7_3 (of_decide_eq_true (by first | (with_reducible assumption) | assumption)) (of_decide_eq_true (by first | (with_reducible assumption) | assumption)) HC1.out; have HR127 := Aside0.mk (Kd.C_of_reads (h1 := fun _ => rfl) (hA27 _ (Kd.reads_of_C HR1.out))); have HC127 := Aside0.mk hC27; clear hA27 hC27 hi027 hsz27; have p128 : 0 ≤ (x7_3 : Int) := of_decide_eq_true (by first | (with_reducible assumption) | assumption); have q128 : x7_3 < (l1.length : Int) := of_decide_eq_true (by first | (with_reducible assumption) | assumption); obtain ⟨ad128, e128, hx128_0⟩ := Kd.at_string HR1.out x7_3 p128 q128; obtain rfl : ad125 = ad128 := (by injection e128); replace p128 := eq_true p128; replace q128 := eq_true q128) | (go_at_call 35; (with_reducible refine (has_take k3 _ _ l1 (x7_3 : Int).toNat (by have := of_eq_true q128; omega) (rdOf ByteArray.empty l1 x7_3) false _ ?side1 ?side2 A24.out).mono ?_); (case side1 => repeat (first | exact HR127.out | (with_reducible refine Kd.C_alloc ?_ _) | (with_reducible refine Kd.C_drewN ?_ _) | (with_reducible refine Kd.C_drew ?_))); (case side2 => exact HC127.out); rintro e w' ⟨rfl, ⟨nd, rfl⟩⟩; (try first | exact ⟨rfl, _, World.drewN_drewN _ _ _⟩ | exact ⟨rfl, _, Eq.trans (World.drewN_drewN _ _ _) (congrArg (World.drewN _) (Nat.add_assoc _ _ _))⟩))))
                            go_roundg k3
                            case measure => have := HJ2.out; have := HK2.out; have := HK3.out; omega
                            case rel => exact ⟨(wrap64 (x7_3 + 1)), (by first | rfl | (simp; done) | (simp [*]; done)), H', ⟨by have := HJ2.out; have := HK2.out; have := HK3.out; omega⟩, by repeat (first | exact Drawn0.refl _ | apply Drawn0.step)⟩
                        · rw [if_neg c23] at H
                          exact absurd H (by simp)
                      · replace c21 := Bool.eq_false_iff.mpr c21
                        subst c21
                        have H1 : (some 7) = some r := by rw [if_neg (show ¬ (false = true) by decide)] at H; exact H
                        clear H
                        have H := H1
                        clear H1
                        obtain rfl := Option.some.inj H
                        have p125 : 0 ≤ (x7_3 : Int) := of_decide_eq_true (by first | (with_reducible assumption) | assumption)
                        have q125 : x7_3 < (l1.length : Int) := of_decide_eq_true (by first | (with_reducible assumption) | assumption)
                        obtain ⟨ad125, e125, hx125_0⟩ := Kd.at_string HR1.out x7_3 p125 q125
                        cases e125
                        replace p125 := eq_true p125
                        replace q125 := eq_true q125
                        go_wp2_with (first | (go_at_call 34; (with_reducible refine (accountingref06_Code.calls k3 (rdOf ByteArray.empty l1 x7_3) false _ A20.out).mono ?_); rintro e w' ⟨rfl, ⟨nd, rfl⟩⟩; (try first | exact ⟨rfl, _, World.drewN_drewN _ _ _⟩ | exact ⟨rfl, _, Eq.trans (World.drewN_drewN _ _ _) (congrArg (World.drewN _) (Nat.add_assoc _ _ _))⟩)))
                        repeat (go_quiet (first | (go_at_call 34; (with_reducible refine (accountingref06_Code.calls k3 (rdOf ByteArray.empty l1 x7_3) false _ A20.out).mono ?_); rintro e w' ⟨rfl, ⟨nd, rfl⟩⟩; (try first | exact ⟨rfl, _, World.drewN_drewN _ _ _⟩ | exact ⟨rfl, _, Eq.trans (World.drewN_drewN _ _ _) (congrArg (World.drewN _) (Nat.add_assoc _ _ _))⟩))); try go_wp2_with (first | (go_at_call 34; (with_reducible refine (accountingref06_Code.calls k3 (rdOf ByteArray.empty l1 x7_3) false _ A20.out).mono ?_); rintro e w' ⟨rfl, ⟨nd, rfl⟩⟩; (try first | exact ⟨rfl, _, World.drewN_drewN _ _ _⟩ | exact ⟨rfl, _, Eq.trans (World.drewN_drewN _ _ _) (congrArg (World.drewN _) (Nat.add_assoc _ _ _))⟩))))
                        go_ret2
                        exact RPost.bad (by repeat (first | exact Drawn0.refl _ | apply Drawn0.step)) (by decide)
                    · rw [if_neg c19] at H
                      exact absurd H (by simp)
                  · rw [if_neg c18] at H
                    have c18b0 : decide (x7_3 < (l1.length : Int)) = false := decide_eq_false c18
                    clear c18
                    obtain rfl := Option.some.inj H
                    refine with_world (P := fun x => Code.wp _ _ _ _ x) _ ?_
                    intro w1 hw1
                    have HB1 := Aside0.mk (show Below w.heap.size w w1 from by rw [hw1]; exact Drawn0.below (by repeat (first | exact Drawn0.refl _ | apply Drawn0.step)))
                    clear hw1
                    obtain ⟨hn0, hn1⟩ := HLEN.out rfl
                    go_wp2_with (first | ((with_reducible refine gate_dst (N := 82) rfl ?_); refine Kd.R_lit k60 (w0 := w) w.heap.size 60 ?hg (N := 82) ?hd (xs := ([] : List S60)) (inner := []) (ok := fun k => w.heap.size ≤ k) (okp := fun _ => False) ?hr (Reps.none _ _) (fun _ hk => hk.elim) HB1.out.size HB1.out HB1.out.size (by simp) ?_; (case hd => rfl); (case hg => rfl); (case hr => first | (go_simp; done) | (go_simp; rfl)); intro v82 wA ho hb hg_ hnew_; obtain ⟨A82, c82, rfl⟩ := Kd.R_slice ho; have HOA := Aside0.mk ho; have HBA := Aside0.mk hb; clear ho hb hg_ hnew_) | ((with_reducible refine gate_builtin (b := .append) (xs := #[.tmp 82, .tmp 83]) rfl ?_); at_builtin; refine Kd.R_append_rows k60 (w0 := w) (Rr := k60.K wA) w.heap.size rfl (.tmp 82) (.tmp 83) 22 60 (.agg #[.int .i64 0, .int .i64 0]) 16 rfl Try.underlying22 info60 rfl (by decide) (by omega) (.slice A82 0 c82) [] l0 A0 l0.length c0 (fun k => w.heap.size ≤ k) (fun _ => False) rfl rfl ?aO ?aR ?aK (fun _ hk => hk.elim) ?aF ?aB ?aS ?aL ?_; (case aO => exact HOA.out); (case aR => exact Kd.C_below HR0.out HBA.out); (case aK => exact fun x cs hx => by obtain rfl := k60_open hx; exact k60_mkM _ _ _ _); (case aF => exact fun k hk => Nat.le_trans HBA.out.size hk); (case aB => exact HBA.out); (case aS => exact HBA.out.size); (case aL => simp; omega); intro v84 wB ho hb hg_ hat; obtain ⟨A84, c84, rfl⟩ := Kd.R_slice ho; have HOB := Aside0.mk ho; have HBB := Aside0.mk hb; clear ho hb hg_ hat) | ((with_reducible refine gate_dst (N := 85) rfl ?_); refine Kd.R_lit Kd.string (w0 := w) w.heap.size 9 ?hg (N := 85) ?hd (xs := ([] : List ByteArray)) (inner := []) (ok := fun k => w.heap.size ≤ k) (okp := fun _ => False) ?hr (Reps.none _ _) (fun _ hk => hk.elim) HBB.out.size HBB.out HBB.out.size (by simp) ?_; (case hd => rfl); (case hg => rfl); (case hr => first | (go_simp; done) | (go_simp; rfl)); intro v85 wC ho hb hg_ hnew_; have HOC1 := Aside0.mk (Kd.R_grown HOB.out hg_ (fun _ _ => by simp)); obtain ⟨A85, c85, rfl⟩ := Kd.R_slice ho; have HOC := Aside0.mk ho; have HBC := Aside0.mk hb; clear ho hb hg_ hnew_) | ((with_reducible refine gate_builtin (b := .append) (xs := #[.tmp 85, .tmp 86]) rfl ?_); at_builtin; refine Kd.R_append_rows Kd.string (w0 := w) (Rr := Kd.string.K wC) w.heap.size rfl (.tmp 85) (.tmp 86) 23 9 (.string ⟨#[]⟩) 16 rfl Try.underlying23 info9 rfl (by decide) (by omega) (.slice A85 0 c85) [] l1 A1 l1.length c1 (fun k => w.heap.size ≤ k) (fun _ => False) rfl rfl ?aO ?aR ?aK (fun _ hk => hk.elim) ?aF ?aB ?aS ?aL ?_; (case aO => exact HOC.out); (case aR => exact Kd.C_below HR1.out HBC.out); (case aK => exact fun x cs hx => hx); (case aF => exact fun k hk => Nat.le_trans HBC.out.size hk); (case aB => exact HBC.out); (case aS => exact HBC.out.size); (case aL => simp; omega); intro v87 wD ho hb hg_ hat; have HOD1 := Aside0.mk (Kd.R_grown2 HOC1.out rfl hg_ (fun k hk he => typed_ne (Kd.R_typed HOC.out k hk) (Kd.R_typed HOC1.out k he.symm) (by decide) rfl)); obtain ⟨A87, c87, rfl⟩ := Kd.R_slice ho; have HOD := Aside0.mk ho; have HBD := Aside0.mk hb; clear ho hb hg_ hat) | ((with_reducible refine gate_dst (N := 89) rfl ?_); refine box_event ?hg (N := 89) ?hd (cs := #[.slice A84 l0.length c84, .slice A87 l1.length c87, .slice none 0 0, .slice none 0 0]) (t := 71) ?hr ?_; (case hd => rfl); (case hg => rfl); (case hr => first | (go_simp; done) | (go_simp; rfl)); intro q hq wE hbox hbb; have HBX := Aside0.mk hbox; have HBE := Aside0.mk (below_then HBD.out HBD.out.size hbb); have HOE1 := Aside0.mk (Kd.R_below HOD1.out hbb); have HOE := Aside0.mk (Kd.R_below HOD.out hbb); have HQ := Aside0.mk (show w.heap.size ≤ q from hq ▸ HBD.out.size); clear hbox hbb hq))
                    go_ret2
                    exact RPost.good HBE.out HBX.out HQ.out HOE1.out HOE.out
end Go.Proofs.Ytbbhichndfbooaa.P
namespace Go.Proofs.Ytbbhichndfbooaa.P
open Go.RowKit Go.Proofs.YtbbhichndfbooaaW.PrintWords Go.Proofs.YtbbhichndfbooaaW.PrintLast
set_option linter.unusedVariables false
set_option linter.unusedSimpArgs false
theorem ref_letter_f (c : Int) : accountingref06_letter.f c = some (isLetter c) := by
  unfold accountingref06_letter.f isLetter
  repeat' split
  all_goals (congr 1; rw [Bool.eq_iff_iff]; simp; omega)
theorem ref_digit_f (c : Int) : accountingref06_digit.f c = some (isDigit c) := by
  unfold accountingref06_digit.f isDigit
  repeat' split
  all_goals (congr 1; rw [Bool.eq_iff_iff]; simp; omega)
theorem refCode_l0 (s : ByteArray) (hs : s.size ≤ 100000) : ∀ (n i : Nat), s.size - i = n → i ≤ s.size → Ev (fun k => accountingref06_Code.l0 k s (i : Int)) (allFrom isCodeByte s i && (decide (0 < s.size) && decide (s.size ≤ 12))) := by
  intro n
  induction n with
  | zero =>
    intro i hn hi
    refine Ev.step (fun k => accountingref06_Code.l0.eq_2 _ _ k) ?_
    obtain rfl : i = s.size := by omega
    simp only [if_neg (show ¬ ((s.size : Int) < (s.size : Int)) by omega), allFrom_end, Bool.true_and]
    by_cases h : 0 < s.size
    · simp only [if_pos (show (s.size : Int) ≥ 1 by omega), h, decide_true, Bool.true_and]
      have : decide ((s.size : Int) ≤ 12) = decide (s.size ≤ 12) := by rw [Bool.eq_iff_iff]; simp; omega
      rw [this]; exact Ev.now _
    · simp only [if_neg (show ¬ (s.size : Int) ≥ 1 by omega), h, decide_false, Bool.false_and]; exact Ev.now _
  | succ n ih =>
    intro i hn hi
    refine Ev.step (fun k => accountingref06_Code.l0.eq_2 _ _ k) ?_
    have hw : wrap64 ((i : Int) + 1) = ((i + 1 : Nat) : Int) := by rw [w64r (by omega) (by omega)]; omega
    have hst := allFrom_step isCodeByte s i (by omega)
    have hor := isCodeByte_or (bt s (i : Int))
    simp only [if_pos (show ((i : Int) < (s.size : Int)) by omega), if_pos (show (0 : Int) ≤ (i : Int) by omega), hw, ref_letter_f, ref_digit_f, Option.bind_some]
    rw [hst, hor]
    have hi' := ih (i + 1) (by omega) (by omega)
    cases h1 : isLetter (bt s (i : Int)) <;> cases h2 : isDigit (bt s (i : Int)) <;> simp <;> first | exact Ev.now _ | simpa using hi'
theorem refCode_ev (s : ByteArray) (hs : s.size ≤ 100000) : Ev (fun k => accountingref06_Code.f k s) (codeB s) := by
  have := refCode_l0 s hs _ 0 rfl (by omega)
  have e : (allFrom isCodeByte s 0 && (decide (0 < s.size) && decide (s.size ≤ 12))) = codeB s := by
    unfold codeB; rw [Bool.and_comm, Bool.and_assoc]
  rw [e] at this
  exact this
theorem hasB_cons (a : ByteArray) (l : List ByteArray) (s : ByteArray) : hasB (a :: l) s = ((a.toList == s.toList) || hasB l s) := rfl
theorem has_ev (l : List ByteArray) (s : ByteArray) (hl : l.length ≤ 1000000) : Ev (fun k => accountingref15_has.f k l s) (hasB l s) := by
  have key : ∀ (n i : Nat), l.length - i = n → i ≤ l.length → Ev (fun k => accountingref15_has.l0 k l s (i : Int)) (hasB (l.drop i) s) := by
    intro n
    induction n with
    | zero =>
      intro i hn hi
      refine Ev.step (fun k => accountingref15_has.l0.eq_2 _ _ _ k) ?_
      obtain rfl : i = l.length := by omega
      simp only [if_neg (show ¬ ((l.length : Int) < (l.length : Int)) by omega), List.drop_length]
      exact Ev.now _
    | succ n ih =>
      intro i hn hi
      have hlt : i < l.length := by omega
      have hw : wrap64 ((i : Int) + 1) = ((i + 1 : Nat) : Int) := by rw [w64r (by omega) (by omega)]; omega
      have hr : rdOf ByteArray.empty l (i : Int) = l[i] := by simp [rdOf, hlt]
      refine Ev.step (fun k => accountingref15_has.l0.eq_2 _ _ _ k) ?_
      simp only [if_pos (show ((i : Int) < (l.length : Int)) by omega), if_pos (show (0 : Int) ≤ (i : Int) by omega), hw, hr]
      rw [List.drop_eq_getElem_cons hlt]
      by_cases e : (l[i]).toList = s.toList
      · rw [hasB_cons, beq_iff_eq.mpr e, Bool.true_or]
        simp only [if_pos e]
        exact Ev.now _
      · rw [hasB_cons, beq_eq_false_iff_ne.mpr e, Bool.false_or]
        simp only [if_neg e]
        exact ih (i + 1) (by omega) (by omega)
  have := key _ 0 rfl (Nat.zero_le _)
  rw [List.drop_zero] at this
  exact this
theorem l1_ev (l : List ByteArray) (hl : l.length ≤ 1000000) (hs : ∀ a ∈ l, a.size ≤ 100000) : Ev (fun k => accountingref15_New.l1 k l 0) (apErr [] l) := by
  have key : ∀ (n i : Nat), l.length - i = n → i ≤ l.length → Ev (fun k => accountingref15_New.l1 k l (i : Int)) (apErr (l.take i) (l.drop i)) := by
    intro n
    induction n with
    | zero =>
      intro i hn hi
      refine Ev.step (fun k => accountingref15_New.l1.eq_2 _ _ k) ?_
      obtain rfl : i = l.length := by omega
      simp only [if_neg (show ¬ ((l.length : Int) < (l.length : Int)) by omega), List.drop_length]
      exact Ev.now _
    | succ n ih =>
      intro i hn hi
      have hlt : i < l.length := by omega
      have hw : wrap64 ((i : Int) + 1) = ((i + 1 : Nat) : Int) := by rw [w64r (by omega) (by omega)]; omega
      have hr : rdOf ByteArray.empty l (i : Int) = l[i] := by simp [rdOf, hlt]
      refine Ev.step (fun k => accountingref15_New.l1.eq_2 _ _ k) ?_
      simp only [if_pos (show ((i : Int) < (l.length : Int)) by omega), if_pos (show (0 : Int) ≤ (i : Int) by omega), if_pos (show ((i : Int) ≤ (l.length : Int)) by omega), hw, hr, Int.toNat_natCast]
      rw [List.drop_eq_getElem_cons hlt]
      unfold apErr
      refine Ev.bind (refCode_ev _ (hs _ (List.getElem_mem hlt))) ?_
      cases hc : codeB l[i]
      · simp only [Bool.false_eq_true, if_false, if_true]
        exact Ev.now _
      · simp only [if_true, Bool.true_eq_false, if_false]
        refine Ev.bind (has_ev _ _ (by rw [List.length_take]; omega)) ?_
        cases hh : hasB (l.take i) l[i]
        · simp only [Bool.false_eq_true, if_false]
          have e : l.take i ++ [l[i]] = l.take (i + 1) := (List.take_succ_eq_append_getElem hlt).symm
          rw [e]
          exact ih (i + 1) (by omega) (by omega)
        · simp only [if_true]
          exact Ev.now _
  have := key _ 0 rfl (Nat.zero_le _)
  rw [List.drop_zero, List.take_zero] at this
  exact this
theorem right_both (steps : List S60) (apprs : List ByteArray) (hl : steps.length ≤ 9223372036854775807) {e : Int} (he : Ev (fun k => accountingref15_New.l1 k apprs 0) e) : ∃ b, (∃ k, flow_right.f k steps = some b) ∧ Ev (fun k => accountingref15_New.l0 k steps apprs 0) (if b = true then e else 2) := by
  have key : ∀ (n i : Nat), steps.length - i = n → i ≤ steps.length → ∃ b, Ev (fun k => flow_right.l0 k steps steps (steps.length : Int) (i : Int)) b ∧ Ev (fun k => accountingref15_New.l0 k steps apprs (i : Int)) (if b = true then e else 2) := by
    intro n
    induction n with
    | zero =>
      intro i hn hi
      refine ⟨true, Ev.step (fun k => flow_right.l0.eq_2 _ _ _ _ k) ?_, Ev.step (fun k => accountingref15_New.l0.eq_2 _ _ _ k) ?_⟩
      · simp only [if_neg (show ¬ ((i : Int) < (steps.length : Int)) by omega)]
        exact Ev.now _
      · simp only [if_neg (show ¬ ((i : Int) < (steps.length : Int)) by omega)]
        exact he
    | succ n ih =>
      intro i hn hi
      have hw : wrap64 ((i : Int) + 1) = ((i + 1 : Nat) : Int) := by rw [w64r (by omega) (by omega)]; omega
      have hw1 : 0 < i → wrap64 ((i : Int) - 1) = (i : Int) - 1 := fun _ => w64r (by omega) (by omega)
      obtain ⟨b, hb, hc⟩ := ih (i + 1) (by omega) (by omega)
      have g1 : (i : Int) < (steps.length : Int) := by omega
      have g2 : (0 : Int) ≤ (i : Int) := by omega
      by_cases h1 : (rd_T60 steps (i : Int)).f0 < 0
      · refine ⟨false, Ev.step (fun k => flow_right.l0.eq_2 _ _ _ _ k) ?_, Ev.step (fun k => accountingref15_New.l0.eq_2 _ _ _ k) ?_⟩
        · simp only [if_pos g1, if_pos g2, if_pos h1]
          exact Ev.now _
        · simp only [if_pos g1, if_pos g2, if_pos h1]
          exact Ev.now _
      by_cases h0 : i = 0
      · have g3 : ¬ (i : Int) > 0 := by omega
        by_cases h2 : (rd_T60 steps (i : Int)).f1 < 0
        · refine ⟨false, Ev.step (fun k => flow_right.l0.eq_2 _ _ _ _ k) ?_, Ev.step (fun k => accountingref15_New.l0.eq_2 _ _ _ k) ?_⟩
          · simp only [if_pos g1, if_pos g2, if_neg h1, if_neg g3, if_pos h2]
            exact Ev.now _
          · simp only [if_pos g1, if_pos g2, if_neg h1, if_neg g3, if_pos h2]
            exact Ev.now _
        by_cases h3 : (rd_T60 steps (i : Int)).f1 > 5
        · refine ⟨false, Ev.step (fun k => flow_right.l0.eq_2 _ _ _ _ k) ?_, Ev.step (fun k => accountingref15_New.l0.eq_2 _ _ _ k) ?_⟩
          · simp only [if_pos g1, if_pos g2, if_neg h1, if_neg g3, if_neg h2, if_pos h3]
            exact Ev.now _
          · simp only [if_pos g1, if_pos g2, if_neg h1, if_neg g3, if_neg h2, if_pos h3]
            exact Ev.now _
        · refine ⟨b, Ev.step (fun k => flow_right.l0.eq_2 _ _ _ _ k) ?_, Ev.step (fun k => accountingref15_New.l0.eq_2 _ _ _ k) ?_⟩
          · simp only [if_pos g1, if_pos g2, if_neg h1, if_neg g3, if_neg h2, if_neg h3, hw]
            exact hb
          · simp only [if_pos g1, if_pos g2, if_neg h1, if_neg g3, if_neg h2, if_neg h3, hw]
            exact hc
      · have g3 : (i : Int) > 0 := by omega
        have g4 : (0 : Int) ≤ (i : Int) - 1 := by omega
        have g5 : (i : Int) - 1 < (steps.length : Int) := by omega
        have e1 := hw1 (by omega)
        by_cases h4 : (rd_T60 steps ((i : Int) - 1)).f0 ≥ (rd_T60 steps (i : Int)).f0
        · refine ⟨false, Ev.step (fun k => flow_right.l0.eq_2 _ _ _ _ k) ?_, Ev.step (fun k => accountingref15_New.l0.eq_2 _ _ _ k) ?_⟩
          · simp only [if_pos g1, if_pos g2, if_neg h1, if_pos g3, e1, if_pos g4, if_pos g5, if_pos h4]
            exact Ev.now _
          · simp only [if_pos g1, if_pos g2, if_neg h1, if_pos g3, e1, if_pos g4, if_pos g5, if_pos h4]
            exact Ev.now _
        by_cases h2 : (rd_T60 steps (i : Int)).f1 < 0
        · refine ⟨false, Ev.step (fun k => flow_right.l0.eq_2 _ _ _ _ k) ?_, Ev.step (fun k => accountingref15_New.l0.eq_2 _ _ _ k) ?_⟩
          · simp only [if_pos g1, if_pos g2, if_neg h1, if_pos g3, e1, if_pos g4, if_pos g5, if_neg h4, if_pos h2]
            exact Ev.now _
          · simp only [if_pos g1, if_pos g2, if_neg h1, if_pos g3, e1, if_pos g4, if_pos g5, if_neg h4, if_pos h2]
            exact Ev.now _
        by_cases h3 : (rd_T60 steps (i : Int)).f1 > 5
        · refine ⟨false, Ev.step (fun k => flow_right.l0.eq_2 _ _ _ _ k) ?_, Ev.step (fun k => accountingref15_New.l0.eq_2 _ _ _ k) ?_⟩
          · simp only [if_pos g1, if_pos g2, if_neg h1, if_pos g3, e1, if_pos g4, if_pos g5, if_neg h4, if_neg h2, if_pos h3]
            exact Ev.now _
          · simp only [if_pos g1, if_pos g2, if_neg h1, if_pos g3, e1, if_pos g4, if_pos g5, if_neg h4, if_neg h2, if_pos h3]
            exact Ev.now _
        · refine ⟨b, Ev.step (fun k => flow_right.l0.eq_2 _ _ _ _ k) ?_, Ev.step (fun k => accountingref15_New.l0.eq_2 _ _ _ k) ?_⟩
          · simp only [if_pos g1, if_pos g2, if_neg h1, if_pos g3, e1, if_pos g4, if_pos g5, if_neg h4, if_neg h2, if_neg h3, hw]
            exact hb
          · simp only [if_pos g1, if_pos g2, if_neg h1, if_pos g3, e1, if_pos g4, if_pos g5, if_neg h4, if_neg h2, if_neg h3, hw]
            exact hc
  obtain ⟨b, hb, hc⟩ := key _ 0 rfl (Nat.zero_le _)
  exact ⟨b, hb.rounds, hc⟩
theorem rnew_both (steps : List S60) (apprs : List ByteArray) (hl : steps.length ≤ 1000000) (hla : apprs.length ≤ 1000000) (hs : ∀ a ∈ apprs, a.size ≤ 100000) :
    ∃ rt kr kn, flow_right.f kr steps = some rt ∧ accountingref15_New.f kn steps apprs = some (newErr rt steps apprs) := by
  obtain ⟨rt, ⟨kr, hr⟩, hn⟩ := right_both steps apprs (by omega) (l1_ev apprs hla hs)
  have bad : Ev (fun k => accountingref15_New.j0 k steps apprs true) 9 := by
    refine Ev.step (fun k => accountingref15_New.j0.eq_2 _ _ _ k) ?_
    simp only [if_true]
    exact Ev.now _
  have hj : Ev (fun k => accountingref15_New.j0 k steps apprs false) (if rt = true then apErr [] apprs else 2) := by
    refine Ev.step (fun k => accountingref15_New.j0.eq_2 _ _ _ k) ?_
    simp only [Bool.false_eq_true, if_false]
    exact hn
  unfold accountingref15_New.f newErr
  by_cases h1 : steps.length > 200
  · obtain ⟨kn, hk⟩ := bad.rounds
    exact ⟨rt, kr, kn, hr, by rw [if_pos (show (steps.length : Int) > 200 by omega), if_pos (.inl h1)]; exact hk⟩
  by_cases h2 : apprs.length > 200
  · obtain ⟨kn, hk⟩ := bad.rounds
    exact ⟨rt, kr, kn, hr, by rw [if_neg (show ¬ (steps.length : Int) > 200 by omega), decide_eq_true (show (apprs.length : Int) > 200 by omega), if_pos (.inr h2)]; exact hk⟩
  obtain ⟨kn, hk⟩ := hj.rounds
  refine ⟨rt, kr, kn, hr, ?_⟩
  rw [if_neg (show ¬ (steps.length : Int) > 200 by omega), decide_eq_false (show ¬ (apprs.length : Int) > 200 by omega), if_neg (by omega), hk]
  cases rt <;> rfl
theorem newErr_len {rt : Bool} {steps : List S60} {apprs : List ByteArray} (h : newErr rt steps apprs = 0) : steps.length ≤ 200 ∧ apprs.length ≤ 200 := by
  unfold newErr at h
  by_cases h1 : steps.length > 200 ∨ apprs.length > 200
  · rw [if_pos h1] at h; cases h
  · omega
theorem light_sizes {steps : List S60} {apprs : List ByteArray} {ops : List S46} (hla : apprs.length ≤ 1000000) : ∀ (k i : Nat), accountinglaw15_light.l0 k ops (i : Int) steps apprs = some true → ∀ j, i ≤ j → (hj : j < apprs.length) → (apprs[j]).size ≤ 100
  | 0, _, h, _, _, _ => by simp [accountinglaw15_light.l0] at h
  | k + 1, i, h, j, hij, hj => by
    have hlt : i < apprs.length := by omega
    have hw : wrap64 ((i : Int) + 1) = ((i + 1 : Nat) : Int) := by rw [w64r (by omega) (by omega)]; omega
    have hr : rdOf ByteArray.empty apprs (i : Int) = apprs[i] := by simp [rdOf, hlt]
    rw [accountinglaw15_light.l0.eq_2] at h
    simp only [if_pos (show ((i : Int) < (apprs.length : Int)) by omega), if_pos (show (0 : Int) ≤ (i : Int) by omega), hw, hr] at h
    by_cases hc : ((apprs[i]).size : Int) > 100
    · rw [if_pos hc] at h; cases h
    rw [if_neg hc] at h
    by_cases e : i = j
    · subst e; omega
    · exact light_sizes hla k (i + 1) h j (by omega) hj
theorem light_all {k : Nat} {steps : List S60} {apprs : List ByteArray} {ops : List S46} (h : accountinglaw15_light.f k steps apprs ops = some true) : steps.length ≤ 250 ∧ apprs.length ≤ 250 ∧ ops.length ≤ 40 ∧ ∀ a ∈ apprs, a.size ≤ 100 := by
  unfold accountinglaw15_light.f at h
  cases k with
  | zero => split at h <;> (try split at h) <;> simp [accountinglaw15_light.j0] at h
  | succ k =>
    by_cases h1 : (steps.length : Int) > 250
    · rw [if_pos h1, accountinglaw15_light.j0.eq_2, if_pos rfl] at h; cases h
    by_cases h2 : (apprs.length : Int) > 250
    · rw [if_neg h1, if_pos h2, accountinglaw15_light.j0.eq_2, if_pos rfl] at h; cases h
    by_cases h3 : (ops.length : Int) > 40
    · rw [if_neg h1, if_neg h2, decide_eq_true h3, accountinglaw15_light.j0.eq_2, if_pos rfl] at h; cases h
    rw [if_neg h1, if_neg h2, decide_eq_false h3, accountinglaw15_light.j0.eq_2, if_neg (by decide)] at h
    refine ⟨by omega, by omega, by omega, fun a ha => ?_⟩
    obtain ⟨j, hj, rfl⟩ := List.mem_iff_getElem.1 ha
    exact light_sizes (by omega) k 0 h j (Nat.zero_le _) hj
end Go.Proofs.Ytbbhichndfbooaa.P
namespace Go.Proofs.Ytbbhichndfbooaa.P
open Go.RowKit Go.Proofs.YtbbhichndfbooaaW.PrintWords Go.Proofs.YtbbhichndfbooaaW.PrintLast Go.Proofs.YtbbhichndfbooaaW.PrintMore Go.Maps Go.ChangeShapes Go.WideShapes Go.WideMaps
set_option linter.unusedVariables false
set_option linter.unusedSimpArgs false
theorem info78 : (Try.prog.info? 78).map (fun i => (i.zero, i.size, i.bytes)) = some (some (.agg #[.string ⟨#[]⟩, .int .i64 0, .int .i64 0, .slice none 0 0]), 4, 56) := by kernel_rfl
theorem rcode_is {a : ByteArray} (hs : a.size ≤ 100000) {b : Bool} (h : codeB a = b) (w : World) : Calls Try.prog 34 #[.string a] w fun e w' => e = .returned (.bool b) ∧ Drawn0 w w' := by
  obtain ⟨k, hk⟩ := (refCode_ev a hs).rounds
  exact accountingref06_Code.calls k a b w (by rw [hk, h])
theorem RAfter.drew {F : Nat → Prop} {w : World} {q : Nat} {S : FlowS} (h : Rfl w F q S) (n : Nat) : RAfter F w (w.drewN n) q S := ⟨F, h.keep (fun _ _ => rfl), (Stp.refl F w).drewN n⟩
set_option maxHeartbeats 4000000 in
set_option maxRecDepth 100000 in
theorem rdraft_calls (q : Nat) (S : FlowS) (F : Nat → Prop) (user : ByteArray) (hu : user.size ≤ 100000) (vol : Int) (w : World) (h : Rfl w F q S) (hn : S.acts.length ≤ 1000000) :
    Calls Try.prog 18 #[.pointer (some ⟨q, 0, none⟩), .string user, .int .i64 vol] w fun e w' => e = .returned (.tuple #[.int .i64 (draftOf S user vol).1, .int .i64 (draftOf S user vol).2.1]) ∧ RAfter F w w' q (draftOf S user vol).2.2 := by
  have HFl := Aside0.mk h
  have HU := Aside0.mk hu
  clear hu
  unfold draftOf
  cases hc : codeB user
  · rw [if_pos rfl]
    have HC := Aside0.mk hc
    clear hc h
    go_enter Try.func18, Try.ntmps18
    go_wp2_with (first | (go_at_call 34; refine (rcode_is HU.out HC.out _).mono ?_; rintro e w' ⟨rfl, ⟨nd, rfl⟩⟩))
    go_ret2
    exact ⟨rfl, RAfter.drew HFl.out _⟩
  rw [if_neg (by simp)]
  have HC := Aside0.mk hc
  clear hc
  by_cases hv : vol < 0
  · rw [if_pos hv]
    have hd : decide (vol < 0) = true := decide_eq_true hv
    clear h
    go_enter Try.func18, Try.ntmps18
    go_wp2_with (first | (go_at_call 34; refine (rcode_is HU.out HC.out _).mono ?_; rintro e w' ⟨rfl, ⟨nd, rfl⟩⟩))
    go_ret2
    exact ⟨rfl, RAfter.drew HFl.out _⟩
  rw [if_neg hv]
  have hd : decide (vol < 0) = false := decide_eq_false hv
  obtain ⟨⟨vs, va, vd, vl, rs⟩, h⟩ := h
  obtain ⟨A, c, e⟩ := Kd.R_slice h.rowd
  have e : vd = .slice A rs.length c := e
  subst e
  have hl : rs.length = S.docs.length := h.len
  have BK : w.heap[q]? = some (.cells #[vs, va, .slice A rs.length c, vl] 71 (0, 0)) := h.blk
  have HF := Aside0.mk h
  have HBK := Aside0.mk BK
  have HL := Aside0.mk hl
  clear h hl
  by_cases hm : 10000 ≤ S.docs.length
  · rw [if_pos hm]
    have c2 := (fun n => (blk_cell (blk_drewN BK n) 2).trans rfl)
    have hd2 : decide ((10000 : Int) ≤ (rs.length : Int)) = true := decide_eq_true (by rw [HL.out]; omega)
    clear BK
    go_enter Try.func18, Try.ntmps18
    go_wp2_with (first | (go_at_call 34; refine (rcode_is HU.out HC.out _).mono ?_; rintro e w' ⟨rfl, ⟨nd, rfl⟩⟩; have c2' := c2 nd))
    go_ret2
    exact ⟨rfl, RAfter.drew HFl.out _⟩
  · rw [if_neg hm]
    have hd2 : decide ((10000 : Int) ≤ (rs.length : Int)) = false := decide_eq_false (by rw [HL.out]; omega)
    have c2 := (fun n => (blk_cell (blk_drewN BK n) 2).trans rfl)
    clear BK
    go_enter Try.func18, Try.ntmps18
    go_upto_region 9 with (first | (go_at_call 34; refine (rcode_is HU.out HC.out _).mono ?_; rintro e w' ⟨rfl, ⟨nd, rfl⟩⟩; have c2' := c2 nd))
    clear c2 c2' e
    refine with_world (P := fun x => Code.wp _ _ _ _ x) _ ?_
    intro w2 hw1
    have HF2 := Aside0.mk (show RflP w2 F q S ⟨vs, va, .slice A rs.length c, vl, rs⟩ from hw1 ▸ HF.out.drewN nd)
    have HS1 := Aside0.mk (show Stp F F w w2 from hw1 ▸ (Stp.refl F w).drewN nd)
    clear hw1 HFl HF HBK
    have c2 := (blk_cell HF2.out.blk 2).trans rfl
    go_upto_region 10 with (first | ((with_reducible refine gate_builtin (b := .append) (xs := #[.tmp 29, .tmp 33]) rfl ?_); at_builtin; refine Kd.R_append kD (w0 := w2) 0 rfl (.tmp 29) (.tmp 33) 69 78 (.agg #[.string ⟨#[]⟩, .int .i64 0, .int .i64 0, .slice none 0 0]) 56 rfl Try.underlying69 info78 rfl (by decide) (by omega) (.slice A rs.length c) rs ⟨user, vol, 1, none, 0, 0⟩ [.string user, .int .i64 vol, .int .i64 1, .slice none 0 0] (fun k => F k ∨ w2.heap.size ≤ k) (fun _ => False) rfl rfl ?aP (fun _ hk => hk.elim) ?aF ?aO ?aB ?aS ?aL ?_; (case aP => exact rfl); (case aF => exact fun k hk => .inr hk); (case aO => exact Kd.R_mono HF2.out.rowd (fun k hk => .inl hk)); (case aB => exact Below.refl _ _); (case aS => exact Nat.zero_le _); (case aL => have := HL.out; omega); intro v1 w3 ho hb hg hat; obtain ⟨A1, c1, rfl⟩ := Kd.R_slice ho; have HO := Aside0.mk ho; have HG := Aside0.mk hg; have HB1 := Aside0.mk (blk_grown HF2.out.blk hg (fun e => typed_ne (HF2.out.td e.symm) HF2.out.tq (by decide) rfl)); have f2' := blk_frozen HB1.out 2; have c2' := (blk_cell HB1.out 2).trans rfl; clear c2 ho hb hg hat))
    refine with_world (P := fun x => Code.wp _ _ _ _ x) _ ?_
    intro w4 hw4
    have h := HF2.out
    have hg := HG.out
    have hsz : w2.heap.size ≤ w3.heap.size := hg.size
    have hst : w4.heap.size = w3.heap.size := by rw [hw4]; simp [World.setCell]
    have h0 := HO.out
    rw [show (rs ++ [(⟨user, vol, 1, none, 0, 0⟩ : RawD)]).length = rs.length + 1 by simp] at h0
    have HF4 := Aside0.mk (show RflP w4 (fun k => (F k ∨ w2.heap.size ≤ k) ∧ k < w3.heap.size) q { S with docs := S.docs ++ [⟨user, vol, 1, []⟩] } { vs := vs, va := va, vd := .slice A1 (rs.length + 1) c1, vl := vl, rs := rs ++ [⟨user, vol, 1, none, 0, 0⟩] } from by
      rw [hw4]
      refine h.turned_docs (fun k hk => ⟨.inl hk, Nat.lt_of_lt_of_le (h.lt k hk) hsz⟩) (fun k hk hp ha => ?_) (blk_put HB1.out 2 _ rfl) ?_ (by simp [HL.out]) (fun hm9 j x D g1 g2 => ?_) (fun k hk => by rw [← hw4, hst]; exact hk.2)
      · rw [Below.heap_setCell _ _ _ _ hp]
        exact hg.block k (h.lt k hk) (fun e => ha e.symm)
      · exact Kd.R_mono (Kd.R_far (Kd.R_types (Kd.R_bound h0) HB1.out (by decide)) (fun k hk => hk.2) _) (fun k hk => ⟨hk.1.1, hk.1.2.2.1⟩)
      · rcases get_snoc g1 with a1 | ⟨a1, rfl⟩
        · rcases get_snoc g2 with a2 | ⟨a2, _⟩
          · exact (h.docs j x D a1 a2).move (fun k hk => ⟨.inl hk, Nat.lt_of_lt_of_le (h.lt k hk) hsz⟩) hm9
          · have := get_lt a1; have := HL.out; omega
        · rcases get_snoc g2 with a2 | ⟨_, rfl⟩
          · have := get_lt a2; have := HL.out; omega
          · exact ⟨rfl, rfl, rfl, Kd.R_nil _ _ _ _ _⟩)
    have HS4 := Aside0.mk (show Stp F (fun k => (F k ∨ w2.heap.size ≤ k) ∧ k < w3.heap.size) w w4 from by
      refine HS1.out.trans ⟨?_, fun k hk => hk.1⟩
      rw [hw4]
      exact (But.of_grown hg (fun k hk => h.rowd.1 k hk)).setCell h.own _)
    clear hw4 h hg hsz hst h0 HS1 HF2 HO HG HB1
    have BK4 := HF4.out.blk
    have c4 := (blk_cell BK4 2).trans rfl
    clear BK4
    go_wp2_with (first | (go_at_call 38; refine (rnote_calls q _ _ _ 1 _ user _ HF4.out hn).mono ?_; rintro e w' ⟨rfl, G2, ⟨L2, h2⟩, hs2⟩; obtain ⟨A2, c2, e2⟩ := Kd.R_slice h2.rowd; have BK5 := h2.blk; rw [e2] at BK5; have c5 := (blk_cell BK5 2).trans rfl; have HL2 := Aside0.mk h2.len; have HF5 := Aside0.mk h2; have HS5 := Aside0.mk hs2; clear BK5 e2 h2 hs2 c4))
    go_ret2
    have hl2 : L2.rs.length = S.docs.length + 1 := by rw [HL2.out]; simp
    refine ⟨by rw [hl2]; push_cast; rfl, ?_⟩
    have HA := RAfter.then HS4.out ⟨G2, ⟨L2, HF5.out⟩, HS5.out⟩
    rw [HL.out] at HA
    exact HA
def whoOf (kind : Int) : Int := if kind = 3 then 1 else if kind = 4 then 1 else if kind = 7 then 2 else 0
theorem has_is {A : Option Addr} {c : Nat} {l : List ByteArray} {a : ByteArray} {r : Bool} {w : World} (hl : l.length ≤ 1000000) (hr : Kd.string.C w A l.length l) (hc : l.length ≤ c) (h : hasB l a = r) : Calls Try.prog 35 #[.slice A l.length c, .string a] w fun e w' => e = .returned (.bool r) ∧ Drawn0 w w' := by
  obtain ⟨k, hk⟩ := (has_ev l a hl).rounds
  exact accountingref15_has.calls k A c l a r w hr hc (by rw [hk, h])
set_option maxHeartbeats 4000000 in
set_option maxRecDepth 100000 in
theorem rpermitted_calls (q : Nat) (S : FlowS) (F : Nat → Prop) (kind : Int) (user : ByteArray) (D : DocS) (v : Value) (w : World) (h : Rfl w F q S) (hn : S.appr.length ≤ 1000000) :
    Calls Try.prog 41 #[.pointer (some ⟨q, 0, none⟩), .int .i64 kind, .agg #[.string D.au, .int .i64 D.vo, .int .i64 D.st, v], .string user] w fun e w' => e = .returned (.bool (permB S D.au (whoOf kind) user)) ∧ Below w.heap.size w w' := by
  have HF := Aside0.mk h
  obtain ⟨L, h⟩ := h
  obtain ⟨A, c, hv⟩ := Kd.R_slice h.appr
  have hR := h.appr
  have BK := h.blk
  rw [hv] at hR BK
  have HC := Aside0.mk (Kd.R_reads' hR)
  have HQ := Aside0.mk BK
  have HN := Aside0.mk hn
  clear hR BK hn h hv
  obtain ⟨ap, hap⟩ : ∃ ap, hasB S.appr user = ap := ⟨_, rfl⟩
  have HAP := Aside0.mk hap
  clear hap
  obtain ⟨z, hz⟩ : ∃ z, permB S D.au (whoOf kind) user = z := ⟨_, rfl⟩
  rw [hz]
  have HZ := Aside0.mk hz
  clear hz
  go_enter Try.func41, Try.ntmps41
  go_upto_region 1 with (fail)
  refine with_world (P := fun x => Code.wp _ _ _ _ x) _ ?_
  intro w1 hw1
  have HB1 := Aside0.mk (show Below w.heap.size w w1 from by rw [hw1]; exact below_alloc (Below.refl _ _) _)
  have BK1 : w1.heap[w.heap.size]? = some (.cells #[.string D.au, .int .i64 D.vo, .int .i64 D.st, v] 78 (0, 0)) := by rw [hw1]; exact blk_new w _
  obtain ⟨g, hg⟩ : ∃ g, w.heap.size = g := ⟨_, rfl⟩
  rw [hg] at BK1 ⊢
  clear hw1 hg
  have c1 := (blk_cell (blk_below HQ.out HB1.out) 1).trans rfl
  have g0 := fun n => (blk_cell (blk_drewN BK1 n) 0).trans rfl
  clear BK1
  go_upto_region 2 with (first | (go_at_call 35; refine (has_is HN.out (Kd.C_below HC.out.2.2 HB1.out) HC.out.2.1 HAP.out).mono ?_; rintro e w' ⟨rfl, ⟨nd, rfl⟩⟩; have g0' := g0 nd; clear g0 c1))
  by_cases h3 : kind = 3
  · subst h3
    cases ap
    · go_wp2
      go_ret
      exact ⟨by rw [← HZ.out]; simp [permB, whoOf, HAP.out], pw_below_drewN HB1.out _⟩
    · go_wp2
      go_ret
      exact ⟨by rw [← HZ.out]; simp [permB, whoOf, HAP.out], pw_below_drewN HB1.out _⟩
  have d3 : (kind == (3 : Int)) = false := beq_eq_false_iff_ne.mpr h3
  by_cases h4 : kind = 4
  · subst h4
    clear d3
    cases ap
    · go_wp2
      go_ret
      exact ⟨by rw [← HZ.out]; simp [permB, whoOf, HAP.out], pw_below_drewN HB1.out _⟩
    · go_wp2
      go_ret
      exact ⟨by rw [← HZ.out]; simp [permB, whoOf, HAP.out], pw_below_drewN HB1.out _⟩
  have d4 : (kind == (4 : Int)) = false := beq_eq_false_iff_ne.mpr h4
  by_cases h7 : kind = 7
  · subst h7
    clear d3 d4
    cases ap
    · go_wp2
      go_ret
      exact ⟨by rw [← HZ.out]; simp [permB, whoOf, HAP.out], pw_below_drewN HB1.out _⟩
    · go_wp2
      go_ret
      exact ⟨by rw [← HZ.out]; simp [permB, whoOf, HAP.out], pw_below_drewN HB1.out _⟩
  have d7 : (kind == (7 : Int)) = false := beq_eq_false_iff_ne.mpr h7
  go_wp2
  go_ret
  exact ⟨by rw [← HZ.out]; simp [permB, whoOf, h3, h4, h7], pw_below_drewN HB1.out _⟩
def nextOf (S : FlowS) (kind : Int) (D : DocS) (user : ByteArray) : DocS × Int :=
  if kind = 2 then (if (needOf S.steps D.vo).2 = true then ({ D with st := if (needOf S.steps D.vo).1 = 0 then 3 else 2 }, 0) else (D, 3))
  else if kind = 3 then (if hasB D.ap user = true then (D, 8) else ({ D with ap := D.ap ++ [user], st := if (needOf S.steps D.vo).1 ≤ ((D.ap.length : Int) + 1) then 3 else D.st }, 0))
  else if kind = 4 then ({ D with st := 4 }, 0) else if kind = 5 then ({ D with st := 1, ap := [] }, 0) else if kind = 6 then ({ D with st := 6 }, 0) else ({ D with st := 5 }, 0)
/-- What next returns. -/
def NextPost (F : Nat → Prop) (w w' : World) (e : Ending) (D : DocS) (err : Int) : Prop :=
  Below w.heap.size w w' ∧ ∃ A c, e = .returned (.tuple #[.agg #[.string D.au, .int .i64 D.vo, .int .i64 D.st, .slice A D.ap.length c], .int .i64 err]) ∧ Kd.string.R 9 w' 0 (fun k => F k ∨ w.heap.size ≤ k) (.slice A D.ap.length c) D.ap
theorem NextPost.old {F : Nat → Prop} {w w' : World} {D : DocS} {A : Option Addr} {c : Nat} {st err : Int} {ap : List ByteArray} (hb : Below w.heap.size w w') (h : Kd.string.R 9 w 0 F (.slice A ap.length c) ap) :
    NextPost F w w' (.returned (.tuple #[.agg #[.string D.au, .int .i64 D.vo, .int .i64 st, .slice A ap.length c], .int .i64 err])) { D with st := st, ap := ap } err :=
  ⟨hb, A, c, rfl, Kd.R_mono (Kd.R_below h hb) (fun k hk => .inl hk)⟩
theorem NextPost.none {F : Nat → Prop} {w w' : World} {D : DocS} {st err : Int} (hb : Below w.heap.size w w') :
    NextPost F w w' (.returned (.tuple #[.agg #[.string D.au, .int .i64 D.vo, .int .i64 st, .slice none 0 0], .int .i64 err])) { D with st := st, ap := [] } err :=
  ⟨hb, .none, 0, rfl, Kd.R_nil _ _ _ _ _⟩
theorem NextPost.new {F ok : Nat → Prop} {w w' : World} {D : DocS} {A : Option Addr} {c : Nat} {st err : Int} {ap : List ByteArray} (hb : Below w.heap.size w w') (h : Kd.string.R 9 w' w.heap.size ok (.slice A ap.length c) ap) (hok : ∀ k, ok k → w.heap.size ≤ k) :
    NextPost F w w' (.returned (.tuple #[.agg #[.string D.au, .int .i64 D.vo, .int .i64 st, .slice A ap.length c], .int .i64 err])) { D with st := st, ap := ap } err :=
  ⟨hb, A, c, rfl, Kd.R_mono (Kd.R_lower h (Nat.zero_le _)) (fun k hk => .inr (hok k hk))⟩
theorem set4 {W : World} {g t : Nat} {z0 z1 z2 z3 a b c d : Value} (h : W.heap[g]? = some (.cells #[z0, z1, z2, z3] t (0, 0))) : ((((W.setCell ⟨g, 0, none⟩ a).setCell ⟨g, 1, none⟩ b).setCell ⟨g, 2, none⟩ c).setCell ⟨g, 3, none⟩ d).heap[g]? = some (.cells #[a, b, c, d] t (0, 0)) :=
  blk_put (blk_put (blk_put (blk_put h 0 _ rfl) 1 _ rfl) 2 _ rfl) 3 _ rfl
set_option maxHeartbeats 8000000 in
set_option maxRecDepth 100000 in
theorem rnext_calls (q : Nat) (S : FlowS) (F : Nat → Prop) (kind : Int) (user : ByteArray) (D : DocS) (A : Option Addr) (c : Nat) (w : World) (h : Rfl w F q S) (hr : Kd.string.R 9 w 0 F (.slice A D.ap.length c) D.ap) (hn : D.ap.length ≤ 1000000) :
    Calls Try.prog 42 #[.pointer (some ⟨q, 0, none⟩), .int .i64 kind, .agg #[.string D.au, .int .i64 D.vo, .int .i64 D.st, .slice A D.ap.length c], .string user] w fun e w' => NextPost F w w' e (nextOf S kind D user).1 (nextOf S kind D user).2 := by
  have HF := Aside0.mk h
  have HR := Aside0.mk hr
  have HN := Aside0.mk hn
  clear h hr hn
  obtain ⟨⟨nn, ok⟩, hnn⟩ : ∃ z, needOf S.steps D.vo = z := ⟨_, rfl⟩
  have HNN := Aside0.mk hnn
  obtain ⟨⟨E, err⟩, hE⟩ : ∃ z, nextOf S kind D user = z := ⟨_, rfl⟩
  rw [hE]
  unfold nextOf at hE
  rw [hnn] at hE
  have HE := Aside0.mk hE
  clear hE hnn
  go_enter Try.func42, Try.ntmps42
  go_upto_region 1 with (fail)
  refine with_world (P := fun x => Code.wp _ _ _ _ x) _ ?_
  intro w1 hw1
  have HB1 := Aside0.mk (show Below w.heap.size w w1 from by rw [hw1]; exact below_alloc (below_alloc (Below.refl _ _) _) _)
  have BK1 : w1.heap[w.heap.size]? = some (.cells #[.string D.au, .int .i64 D.vo, .int .i64 D.st, .slice A D.ap.length c] 78 (0, 0)) := by rw [hw1]; exact blk_alloc (blk_new w _) _
  have BK2 : w1.heap[w.heap.size + 1]? = some (.cells #[.string ⟨#[]⟩, .int .i64 0, .int .i64 0, .slice none 0 0] 78 (0, 0)) := by
    rw [hw1]
    have := blk_new (w.alloc (.cells #[.string D.au, .int .i64 D.vo, .int .i64 D.st, .slice A D.ap.length c] 78)) (.cells #[.string ⟨#[]⟩, .int .i64 0, .int .i64 0, .slice none 0 0] 78)
    rw [show (w.alloc (.cells #[.string D.au, .int .i64 D.vo, .int .i64 D.st, .slice A D.ap.length c] 78)).heap.size = w.heap.size + 1 by simp] at this
    exact this
  have hsz : (w.alloc (.cells #[.string D.au, .int .i64 D.vo, .int .i64 D.st, .slice A D.ap.length c] 78)).heap.size = w.heap.size + 1 := by simp
  try rw [hsz]
  clear hsz
  obtain ⟨g, hg⟩ : ∃ g, w.heap.size = g := ⟨_, rfl⟩
  obtain ⟨g2, hg2⟩ : ∃ g2, g + 1 = g2 := ⟨_, rfl⟩
  rw [hg] at BK1 BK2 ⊢
  rw [hg2] at BK2 ⊢
  have HG := Aside0.mk (show w.heap.size ≤ g ∧ w.heap.size ≤ g2 ∧ g ≠ g2 by omega)
  have HK1 := Aside0.mk BK1
  have HK2 := Aside0.mk BK2
  have a0 := (blk_cell BK1 0).trans rfl
  have a1 := (blk_cell BK1 1).trans rfl
  have a2 := (blk_cell BK1 2).trans rfl
  have a3 := (blk_cell BK1 3).trans rfl
  have f0 := blk_frozen BK1 0
  have f1 := blk_frozen BK1 1
  have f2 := blk_frozen BK1 2
  have f3 := blk_frozen BK1 3
  have b0 := (blk_cell BK2 0).trans rfl
  have b1 := (blk_cell BK2 1).trans rfl
  have b2 := (blk_cell BK2 2).trans rfl
  have b3 := (blk_cell BK2 3).trans rfl
  have e0 := blk_frozen BK2 0
  have e1 := blk_frozen BK2 1
  have e2 := blk_frozen BK2 2
  have e3 := blk_frozen BK2 3
  have hne : g ≠ g2 := HG.out.2.2
  have hne2 : g2 ≠ g := fun e => HG.out.2.2 e.symm
  clear hw1 hg hg2 BK1 BK2
  go_upto_region 2 with (first | (go_at_call 14; refine (rneed_is HNN.out (HF.out.below HB1.out)).mono ?_; rintro e w' ⟨rfl, he_⟩; obtain rfl := he_.symm))
  by_cases h2 : kind = 2
  · subst h2
    have hE := HE.out
    simp only [if_true] at hE
    cases ok
    · simp only [Bool.false_eq_true, if_false] at hE
      obtain ⟨rfl, rfl⟩ := Prod.mk.inj hE
      clear hE
      go_wp2
      refine bodyPost_ret (results_ct rfl _ _ g2 78 #[.string D.au, .int .i64 D.vo, .int .i64 D.st, .slice A D.ap.length c] (0, 0) _ rfl (set4 (by with_reducible repeat (first | exact HK2.out | refine (Below.heap_setCell _ _ _ _ hne2).trans ?_))) Try.underlying78 rfl rfl) rfl ?_
      exact NextPost.old (by with_reducible repeat (first | exact HB1.out | refine below_set ?_ HG.out.1 | refine below_set ?_ HG.out.2.1)) HR.out
    · simp only [if_true] at hE
      by_cases hz : nn = 0
      · subst hz
        simp only [if_true] at hE
        obtain ⟨rfl, rfl⟩ := Prod.mk.inj hE
        clear hE
        go_wp2
        refine bodyPost_ret (results_ct rfl _ _ g2 78 #[.string D.au, .int .i64 D.vo, .int .i64 3, .slice A D.ap.length c] (0, 0) _ rfl (set4 (by with_reducible repeat (first | exact HK2.out | refine (Below.heap_setCell _ _ _ _ hne2).trans ?_))) Try.underlying78 rfl rfl) rfl ?_
        exact NextPost.old (by with_reducible repeat (first | exact HB1.out | refine below_set ?_ HG.out.1 | refine below_set ?_ HG.out.2.1)) HR.out
      · simp only [if_neg hz] at hE
        obtain ⟨rfl, rfl⟩ := Prod.mk.inj hE
        clear hE
        have dz : (nn == (0 : Int)) = false := beq_eq_false_iff_ne.mpr hz
        go_wp2
        refine bodyPost_ret (results_ct rfl _ _ g2 78 #[.string D.au, .int .i64 D.vo, .int .i64 2, .slice A D.ap.length c] (0, 0) _ rfl (set4 (by with_reducible repeat (first | exact HK2.out | refine (Below.heap_setCell _ _ _ _ hne2).trans ?_))) Try.underlying78 rfl rfl) rfl ?_
        exact NextPost.old (by with_reducible repeat (first | exact HB1.out | refine below_set ?_ HG.out.1 | refine below_set ?_ HG.out.2.1)) HR.out
  have d2 : (kind == (2 : Int)) = false := beq_eq_false_iff_ne.mpr h2
  by_cases h3 : kind = 3
  · subst h3
    have hE := HE.out
    simp only [show ¬ ((3 : Int) = 2) by decide, if_false, if_true] at hE
    clear d2
    obtain ⟨bh, hbh⟩ : ∃ b, hasB D.ap user = b := ⟨_, rfl⟩
    rw [hbh] at hE
    have HBH := Aside0.mk hbh
    clear hbh
    cases bh
    · simp only [Bool.false_eq_true, if_false] at hE
      have HE2 := Aside0.mk hE
      clear hE
      go_upto_region 13 with (first | (go_at_call 35; refine (has_is HN.out (Kd.C_below (Kd.R_reads' HR.out).2.2 HB1.out) (Kd.R_reads' HR.out).2.1 HBH.out).mono ?_; rintro e w' ⟨rfl, ⟨nd, rfl⟩⟩; have a0' := (blk_cell (blk_drewN HK1.out nd) 0).trans rfl; have a1' := (blk_cell (blk_drewN HK1.out nd) 1).trans rfl; have a2' := (blk_cell (blk_drewN HK1.out nd) 2).trans rfl; have a3' := (blk_cell (blk_drewN HK1.out nd) 3).trans rfl; have e0' := blk_frozen (blk_drewN HK2.out nd) 0; have e1' := blk_frozen (blk_drewN HK2.out nd) 1; have e2' := blk_frozen (blk_drewN HK2.out nd) 2; have e3' := blk_frozen (blk_drewN HK2.out nd) 3; have b0' := (blk_cell (blk_drewN HK2.out nd) 0).trans rfl; have b1' := (blk_cell (blk_drewN HK2.out nd) 1).trans rfl; have b2' := (blk_cell (blk_drewN HK2.out nd) 2).trans rfl; have b3' := (blk_cell (blk_drewN HK2.out nd) 3).trans rfl; clear a0 a1 a2 a3 f0 f1 f2 f3 b0 b1 b2 b3 e0 e1 e2 e3))
      have HB2 := Aside0.mk (pw_below_drewN HB1.out nd)
      have HL1 := Aside0.mk (blk_drewN HK1.out nd)
      have HL2 := Aside0.mk (blk_drewN HK2.out nd)
      clear b0' b1' b2' b3' e0' e1' e2' e3' HB1 HK1 HK2
      generalize w1.drewN nd = w2 at HB2 HL1 HL2 a0' a1' a2' a3' ⊢
      go_upto_region 14 with (first | ((with_reducible refine gate_dst (N := 37) rfl ?_); refine Kd.R_lit Kd.string (w0 := w) w.heap.size 9 ?hg (N := 37) ?hd (xs := ([] : List ByteArray)) (inner := []) (ok := fun k => w.heap.size ≤ k) (okp := fun _ => False) ?hr (Reps.none _ _) (fun _ hk => hk.elim) HB2.out.size HB2.out HB2.out.size (by simp) ?_; (case hd => rfl); (case hg => rfl); (case hr => first | (go_simp; done) | (go_simp; rfl)); intro v37 wA ho hb hg_ hnew_; obtain ⟨A37, c37, rfl⟩ := Kd.R_slice ho; have HOA := Aside0.mk ho; have HBA := Aside0.mk hb; have HA1 := Aside0.mk (blk_grown HL1.out hg_ (by simp)); have HA2 := Aside0.mk (blk_grown HL2.out hg_ (by simp)); have a3A := (blk_cell HA1.out 3).trans rfl; clear ho hb hg_ hnew_ a0' a1' a2' a3') | ((with_reducible refine gate_builtin (b := .append) (xs := #[.tmp 37, .tmp 39]) rfl ?_); at_builtin; refine Kd.R_append_rows Kd.string (w0 := w) (Rr := Kd.string.K wA) w.heap.size rfl (.tmp 37) (.tmp 39) 23 9 (.string ⟨#[]⟩) 16 rfl Try.underlying23 info9 rfl (by decide) (by omega) (.slice A37 0 c37) [] D.ap A D.ap.length c (fun k => w.heap.size ≤ k) (fun _ => False) rfl rfl ?aO ?aR ?aK (fun _ hk => hk.elim) ?aF ?aB ?aS ?aL ?_; (case aO => exact HOA.out); (case aR => exact Kd.C_below (Kd.R_reads' HR.out).2.2 HBA.out); (case aK => exact fun x cs hx => hx); (case aF => exact fun k hk => Nat.le_trans HBA.out.size hk); (case aB => exact HBA.out); (case aS => exact HBA.out.size); (case aL => have := HN.out; simp; omega); intro v40 wB ho hb hg_ hat; have HX1 := Aside0.mk (blk_grown HA1.out hg_ (fun e => typed_ne (Kd.R_typed HOA.out _ e.symm) ⟨_, HA1.out⟩ (by decide) rfl)); have HX2 := Aside0.mk (blk_grown HA2.out hg_ (fun e => typed_ne (Kd.R_typed HOA.out _ e.symm) ⟨_, HA2.out⟩ (by decide) rfl)); obtain ⟨A40, c40, rfl⟩ := Kd.R_slice ho; have HOB := Aside0.mk ho; have HBB := Aside0.mk hb; clear ho hb hg_ hat a3A) | ((with_reducible refine gate_builtin (b := .append) (xs := #[.tmp 40, .tmp 42]) rfl ?_); at_builtin; refine Kd.R_append Kd.string (w0 := w) w.heap.size rfl (.tmp 40) (.tmp 42) 23 9 (.string ⟨#[]⟩) 16 rfl Try.underlying23 info9 rfl (by decide) (by omega) (.slice A40 D.ap.length c40) D.ap user [.string user] (fun k => w.heap.size ≤ k) (fun _ => False) rfl rfl ?aP (fun _ hk => hk.elim) ?aF ?aO ?aB ?aS ?aL ?_; (case aP => exact rfl); (case aF => exact fun k hk => Nat.le_trans HBB.out.size hk); (case aO => exact HOB.out); (case aB => exact HBB.out); (case aS => exact HBB.out.size); (case aL => have := HN.out; omega); intro v43 wC ho hb hg_ hat; have HY1 := Aside0.mk (blk_grown HX1.out hg_ (fun e => typed_ne (Kd.R_typed HOB.out _ e.symm) ⟨_, HX1.out⟩ (by decide) rfl)); have HY2 := Aside0.mk (blk_grown HX2.out hg_ (fun e => typed_ne (Kd.R_typed HOB.out _ e.symm) ⟨_, HX2.out⟩ (by decide) rfl)); obtain ⟨A43, c43, rfl⟩ := Kd.R_slice ho; have HOC := Aside0.mk ho; have HBC := Aside0.mk hb; have f3c := blk_frozen HY1.out 3; have c3c := (blk_cell HY1.out 3).trans rfl; clear ho hb hg_ hat))
      have HR4 := Aside0.mk (Kd.R_types (Kd.R_types HOC.out HY1.out (by decide)) HY2.out (by decide))
      refine with_world (P := fun x => Code.wp _ _ _ _ x) _ ?_
      intro w5 hw5
      have HB5 := Aside0.mk (show Below w.heap.size w w5 from by rw [hw5]; exact below_set HBC.out HG.out.1)
      have HR5 := Aside0.mk (show Kd.string.R 9 w5 w.heap.size _ _ _ from by rw [hw5]; exact Kd.R_far HR4.out (fun k hk => hk.1.2) _)
      have HK1 := Aside0.mk (show w5.heap[g]? = some (.cells #[.string D.au, .int .i64 D.vo, .int .i64 D.st, .slice A43 (D.ap.length + 1) c43] 78 (0, 0)) from by rw [hw5]; exact blk_put HY1.out 3 _ rfl)
      have HK2 := Aside0.mk (show w5.heap[g2]? = some (.cells #[.string ⟨#[]⟩, .int .i64 0, .int .i64 0, .slice none 0 0] 78 (0, 0)) from by rw [hw5]; exact (Below.heap_setCell _ _ _ _ hne2).trans HY2.out)
      clear hw5 c3c f3c HR4
      have a0 := (blk_cell HK1.out 0).trans rfl
      have a1 := (blk_cell HK1.out 1).trans rfl
      have a2 := (blk_cell HK1.out 2).trans rfl
      have a3 := (blk_cell HK1.out 3).trans rfl
      have f2 := blk_frozen HK1.out 2
      have b0 := (blk_cell HK2.out 0).trans rfl
      have b1 := (blk_cell HK2.out 1).trans rfl
      have b2 := (blk_cell HK2.out 2).trans rfl
      have b3 := (blk_cell HK2.out 3).trans rfl
      have e0 := blk_frozen HK2.out 0
      have e1 := blk_frozen HK2.out 1
      have e2 := blk_frozen HK2.out 2
      have e3 := blk_frozen HK2.out 3
      by_cases hle : nn ≤ (D.ap.length : Int) + 1
      · have hE := HE2.out
        rw [if_pos hle] at hE
        obtain ⟨rfl, rfl⟩ := Prod.mk.inj hE
        clear hE HE2 HE
        have dl : decide (nn ≤ (D.ap.length : Int) + 1) = true := decide_eq_true hle
        go_wp2
        refine bodyPost_ret (results_ct rfl _ _ g2 78 #[.string D.au, .int .i64 D.vo, .int .i64 3, .slice A43 (D.ap.length + 1) c43] (0, 0) _ rfl (set4 (by with_reducible repeat (first | exact HK2.out | refine (Below.heap_setCell _ _ _ _ hne2).trans ?_))) Try.underlying78 rfl rfl) rfl ?_
        have hlen : D.ap.length + 1 = (D.ap ++ [user]).length := by simp
        rw [hlen]
        exact NextPost.new (ok := fun k => (w.heap.size ≤ k ∧ k ≠ g) ∧ k ≠ g2) (by with_reducible repeat (first | exact HB5.out | refine below_set ?_ HG.out.1 | refine below_set ?_ HG.out.2.1)) (by with_reducible repeat (first | exact HR5.out | refine Kd.R_far (p := ⟨g, _, none⟩) ?_ (fun k hk => hk.1.2) _ | refine Kd.R_far (p := ⟨g2, _, none⟩) ?_ (fun k hk => hk.2) _)) (fun k hk => hk.1.1)
      · have hE := HE2.out
        rw [if_neg hle] at hE
        obtain ⟨rfl, rfl⟩ := Prod.mk.inj hE
        clear hE HE2 HE
        have dl : decide (nn ≤ (D.ap.length : Int) + 1) = false := decide_eq_false hle
        go_wp2
        refine bodyPost_ret (results_ct rfl _ _ g2 78 #[.string D.au, .int .i64 D.vo, .int .i64 D.st, .slice A43 (D.ap.length + 1) c43] (0, 0) _ rfl (set4 (by with_reducible repeat (first | exact HK2.out | refine (Below.heap_setCell _ _ _ _ hne2).trans ?_))) Try.underlying78 rfl rfl) rfl ?_
        have hlen : D.ap.length + 1 = (D.ap ++ [user]).length := by simp
        rw [hlen]
        exact NextPost.new (ok := fun k => (w.heap.size ≤ k ∧ k ≠ g) ∧ k ≠ g2) (by with_reducible repeat (first | exact HB5.out | refine below_set ?_ HG.out.1 | refine below_set ?_ HG.out.2.1)) (by with_reducible repeat (first | exact HR5.out | refine Kd.R_far (p := ⟨g, _, none⟩) ?_ (fun k hk => hk.1.2) _ | refine Kd.R_far (p := ⟨g2, _, none⟩) ?_ (fun k hk => hk.2) _)) (fun k hk => hk.1.1)
    · simp only [if_true] at hE
      obtain ⟨rfl, rfl⟩ := Prod.mk.inj hE
      clear hE
      go_wp2_with (first | (go_at_call 35; refine (has_is HN.out (Kd.C_below (Kd.R_reads' HR.out).2.2 HB1.out) (Kd.R_reads' HR.out).2.1 HBH.out).mono ?_; rintro e w' ⟨rfl, ⟨nd, rfl⟩⟩; have a0' := (blk_cell (blk_drewN HK1.out nd) 0).trans rfl; have a1' := (blk_cell (blk_drewN HK1.out nd) 1).trans rfl; have a2' := (blk_cell (blk_drewN HK1.out nd) 2).trans rfl; have a3' := (blk_cell (blk_drewN HK1.out nd) 3).trans rfl; have e0' := blk_frozen (blk_drewN HK2.out nd) 0; have e1' := blk_frozen (blk_drewN HK2.out nd) 1; have e2' := blk_frozen (blk_drewN HK2.out nd) 2; have e3' := blk_frozen (blk_drewN HK2.out nd) 3; have b0' := (blk_cell (blk_drewN HK2.out nd) 0).trans rfl; have b1' := (blk_cell (blk_drewN HK2.out nd) 1).trans rfl; have b2' := (blk_cell (blk_drewN HK2.out nd) 2).trans rfl; have b3' := (blk_cell (blk_drewN HK2.out nd) 3).trans rfl; clear a0 a1 a2 a3 f0 f1 f2 f3 b0 b1 b2 b3 e0 e1 e2 e3))
      refine bodyPost_ret (results_ct rfl _ _ g2 78 #[.string D.au, .int .i64 D.vo, .int .i64 D.st, .slice A D.ap.length c] (0, 0) _ rfl (set4 (blk_drewN HK2.out _)) Try.underlying78 rfl rfl) rfl ?_
      exact NextPost.old (by with_reducible repeat (first | exact pw_below_drewN HB1.out _ | refine below_set ?_ HG.out.1 | refine below_set ?_ HG.out.2.1)) HR.out
  have d3 : (kind == (3 : Int)) = false := beq_eq_false_iff_ne.mpr h3
  by_cases h4 : kind = 4
  · subst h4
    have hE := HE.out
    simp only [show ¬ ((4 : Int) = 2) by decide, show ¬ ((4 : Int) = 3) by decide, if_false, if_true] at hE
    obtain ⟨rfl, rfl⟩ := Prod.mk.inj hE
    clear hE d2 d3
    go_wp2
    refine bodyPost_ret (results_ct rfl _ _ g2 78 #[.string D.au, .int .i64 D.vo, .int .i64 4, .slice A D.ap.length c] (0, 0) _ rfl (set4 (by with_reducible repeat (first | exact HK2.out | refine (Below.heap_setCell _ _ _ _ hne2).trans ?_))) Try.underlying78 rfl rfl) rfl ?_
    exact NextPost.old (by with_reducible repeat (first | exact HB1.out | refine below_set ?_ HG.out.1 | refine below_set ?_ HG.out.2.1)) HR.out
  have d4 : (kind == (4 : Int)) = false := beq_eq_false_iff_ne.mpr h4
  by_cases h5 : kind = 5
  · subst h5
    have hE := HE.out
    simp only [show ¬ ((5 : Int) = 2) by decide, show ¬ ((5 : Int) = 3) by decide, show ¬ ((5 : Int) = 4) by decide, if_false, if_true] at hE
    obtain ⟨rfl, rfl⟩ := Prod.mk.inj hE
    clear hE d2 d3 d4
    go_wp2
    refine bodyPost_ret (results_ct rfl _ _ g2 78 #[.string D.au, .int .i64 D.vo, .int .i64 1, .slice none 0 0] (0, 0) _ rfl (set4 (by with_reducible repeat (first | exact HK2.out | refine (Below.heap_setCell _ _ _ _ hne2).trans ?_))) Try.underlying78 rfl rfl) rfl ?_
    exact NextPost.none (by with_reducible repeat (first | exact HB1.out | refine below_set ?_ HG.out.1 | refine below_set ?_ HG.out.2.1))
  have d5 : (kind == (5 : Int)) = false := beq_eq_false_iff_ne.mpr h5
  by_cases h6 : kind = 6
  · subst h6
    have hE := HE.out
    simp only [show ¬ ((6 : Int) = 2) by decide, show ¬ ((6 : Int) = 3) by decide, show ¬ ((6 : Int) = 4) by decide, show ¬ ((6 : Int) = 5) by decide, if_false, if_true] at hE
    obtain ⟨rfl, rfl⟩ := Prod.mk.inj hE
    clear hE d2 d3 d4 d5
    go_wp2
    refine bodyPost_ret (results_ct rfl _ _ g2 78 #[.string D.au, .int .i64 D.vo, .int .i64 6, .slice A D.ap.length c] (0, 0) _ rfl (set4 (by with_reducible repeat (first | exact HK2.out | refine (Below.heap_setCell _ _ _ _ hne2).trans ?_))) Try.underlying78 rfl rfl) rfl ?_
    exact NextPost.old (by with_reducible repeat (first | exact HB1.out | refine below_set ?_ HG.out.1 | refine below_set ?_ HG.out.2.1)) HR.out
  have d6 : (kind == (6 : Int)) = false := beq_eq_false_iff_ne.mpr h6
  have hE := HE.out
  simp only [if_neg h2, if_neg h3, if_neg h4, if_neg h5, if_neg h6] at hE
  obtain ⟨rfl, rfl⟩ := Prod.mk.inj hE
  clear hE
  go_wp2
  refine bodyPost_ret (results_ct rfl _ _ g2 78 #[.string D.au, .int .i64 D.vo, .int .i64 5, .slice A D.ap.length c] (0, 0) _ rfl (set4 (by with_reducible repeat (first | exact HK2.out | refine (Below.heap_setCell _ _ _ _ hne2).trans ?_))) Try.underlying78 rfl rfl) rfl ?_
  exact NextPost.old (by with_reducible repeat (first | exact HB1.out | refine below_set ?_ HG.out.1 | refine below_set ?_ HG.out.2.1)) HR.out
end Go.Proofs.Ytbbhichndfbooaa.P
namespace Go.Proofs.Ytbbhichndfbooaa.P
open Go.RowKit Go.Proofs.YtbbhichndfbooaaW.PrintWords Go.Proofs.YtbbhichndfbooaaW.PrintLast Go.Proofs.YtbbhichndfbooaaW.PrintMore
attribute [local go_sem] max2_int min2_int max_two min_two max_three min_three max_four min_four   -- for this text's walks alone
set_option linter.unusedVariables false
set_option linter.unusedSimpArgs false
/-! ### accountingref15_state: function 40 -/
def accountingref15_state.j0 : Nat → Int → Int → Bool → Option (Bool)
  | 0, _, _, _ => none
  | k + 1, x1, x5, x10 => if x10 = true then (some (x1 == 2)) else (if x5 = 5 then (some (x1 == 4)) else (if x5 = 6 then (if x1 = 1 then (some true) else (some (x1 == 4))) else (some (x1 == 3))))
def accountingref15_state.f (k : Nat) (a0 : Int) (a1 : Int) : Option (Bool) := if a0 = 2 then (some (a1 == 1)) else (if a0 = 3 then (accountingref15_state.j0 k a1 a0 (a0 == 3)) else (accountingref15_state.j0 k a1 a0 (a0 == 4)))
theorem accountingref15_state.mono_l : ∀ k, (∀ y0 y1 y2, LeO (accountingref15_state.j0 k y0 y1 y2) (accountingref15_state.j0 (k + 1) y0 y1 y2))
  | 0 => fun _ _ _ r h => by simp [accountingref15_state.j0] at h
  | k + 1 => by
    have ih0 := accountingref15_state.mono_l k
    · intro y0 y1 y2
      unfold accountingref15_state.j0
      repeat' first
      | (with_reducible exact ih0 _ _ _)
      | (with_reducible exact LeO.refl _)
      | (with_reducible exact LeO.none _)
      | (with_reducible refine LeO.ite ?_ ?_)
      | (with_reducible refine LeO.bind ?_ (fun _ => ?_))
      | exact ih0 _ _ _
      | exact LeO.none _
      | refine LeO.ite ?_ ?_
      | refine LeO.bind ?_ (fun _ => ?_)
theorem accountingref15_state.mono : ∀ a0 a1 k, LeO (accountingref15_state.f k a0 a1) (accountingref15_state.f (k + 1) a0 a1) := by
  intro a0 a1 k
  have ih0 := accountingref15_state.mono_l k
  unfold accountingref15_state.f
  repeat' first
      | (with_reducible exact ih0 _ _ _)
      | (with_reducible exact LeO.refl _)
      | (with_reducible exact LeO.none _)
      | (with_reducible refine LeO.ite ?_ ?_)
      | (with_reducible refine LeO.bind ?_ (fun _ => ?_))
      | exact ih0 _ _ _
      | exact LeO.none _
      | refine LeO.ite ?_ ?_
      | refine LeO.bind ?_ (fun _ => ?_)
set_option maxHeartbeats 8000000 in
set_option maxRecDepth 100000 in
theorem accountingref15_state.calls (k : Nat) (a0 : Int) (a1 : Int) (r : Bool) (w : World) (h : accountingref15_state.f k a0 a1 = some r) :
    Calls Try.prog 40 #[.int .i64 a0, .int .i64 a1] w fun e w' => e = .returned (.bool r) ∧ Drawn0 w w' := by
  have H : (if a0 = 2 then (some (a1 == 1)) else (if a0 = 3 then (accountingref15_state.j0 k a1 a0 (a0 == 3)) else (accountingref15_state.j0 k a1 a0 (a0 == 4)))) = some r := h
  clear h
  by_cases c3 : a0 = 2
  · rw [if_pos c3] at H
    have c3b0 : (a0 == 2) = true := beq_iff_eq.mpr c3
    have c3b1 : (a0 != 2) = false := bne_eq_false_iff_eq.mpr c3
    clear c3
    obtain rfl := Option.some.inj H
    go_enter Try.func40, Try.ntmps40
    go_wp2
    go_ret
    exact ⟨by first | rfl | (simp; done) | (simp [*]; done), by repeat (first | exact Drawn0.refl _ | apply Drawn0.step)⟩
  · rw [if_neg c3] at H
    have c3b0 : (a0 == 2) = false := beq_eq_false_iff_ne.mpr c3
    have c3b1 : (a0 != 2) = true := bne_iff_ne.mpr c3
    have HC4 := Aside0.mk H
    clear H
    go_enter Try.func40, Try.ntmps40
    go_upto_if 10 with (fail)
    go_cut [10] (fun v10 wc => ∃ (kq : Nat) (x10_3 : Bool), v10 = .bool x10_3 ∧ Aside0 (accountingref15_state.j0 kq a1 a0 x10_3 = some r) ∧ Aside0 (kq ≤ k) ∧ Drawn0 w wc)
    case first =>
      have H := HC4.out
      clear HC4
      by_cases c5 : a0 = 3
      · rw [if_pos c5] at H
        have c5b0 : (a0 == 3) = true := beq_iff_eq.mpr c5
        have c5b1 : (a0 != 3) = false := bne_eq_false_iff_eq.mpr c5
        clear c5
        (first | rw [c5b0] | (simp only [i64_w, i32_w]; rw [c5b0]) | skip)
        have H' := Aside0.mk H
        clear H
        go_wp2
        go_meet
        case rel => exact ⟨_, ((a0 == 3)), (by first | rfl | (simp; done) | (simp [*]; done)), H', ⟨by first | omega | exact Nat.le_refl _⟩, by repeat (first | exact Drawn0.refl _ | apply Drawn0.step)⟩
      · rw [if_neg c5] at H
        have c5b0 : (a0 == 3) = false := beq_eq_false_iff_ne.mpr c5
        have c5b1 : (a0 != 3) = true := bne_iff_ne.mpr c5
        (first | rw [c5b0] | (simp only [i64_w, i32_w]; rw [c5b0]) | skip)
        have H' := Aside0.mk H
        clear H
        go_wp2
        go_meet
        case rel => exact ⟨_, ((a0 == 4)), (by first | rfl | (simp; done) | (simp [*]; done)), H', ⟨by first | omega | exact Nat.le_refl _⟩, by repeat (first | exact Drawn0.refl _ | apply Drawn0.step)⟩
    case rest =>
      clear HC4
      try clear p2
      try clear c3
      try clear c3b0
      try clear c3b1
      try clear c4
      try clear c5
      try clear c5b0
      try clear c5b1
      obtain ⟨kq, x10_3, rfl, HA, HJ3, ⟨mc3, rfl⟩⟩ := hcut
      cases kq with
      | zero => exact absurd HA.out (by simp [accountingref15_state.j0])
      | succ kj3 =>
        have H := HA.out
        clear HA
        simp only [accountingref15_state.j0] at H
        by_cases c6 : x10_3 = true
        · subst c6
          have H1 : (some (a1 == 2)) = some r := by rw [if_pos rfl] at H; exact H
          clear H
          have H := H1
          clear H1
          obtain rfl := Option.some.inj H
          go_wp2
          go_ret
          exact ⟨by first | rfl | (simp; done) | (simp [*]; done), by repeat (first | exact Drawn0.refl _ | apply Drawn0.step)⟩
        · replace c6 := Bool.eq_false_iff.mpr c6
          subst c6
          have H1 : (if a0 = 5 then (some (a1 == 4)) else (if a0 = 6 then (if a1 = 1 then (some true) else (some (a1 == 4))) else (some (a1 == 3)))) = some r := by rw [if_neg (show ¬ (false = true) by decide)] at H; exact H
          clear H
          have H := H1
          clear H1
          by_cases c7 : a0 = 5
          · rw [if_pos c7] at H
            have c7b0 : (a0 == 5) = true := beq_iff_eq.mpr c7
            have c7b1 : (a0 != 5) = false := bne_eq_false_iff_eq.mpr c7
            clear c7
            obtain rfl := Option.some.inj H
            go_wp2
            go_ret
            exact ⟨by first | rfl | (simp; done) | (simp [*]; done), by repeat (first | exact Drawn0.refl _ | apply Drawn0.step)⟩
          · rw [if_neg c7] at H
            have c7b0 : (a0 == 5) = false := beq_eq_false_iff_ne.mpr c7
            have c7b1 : (a0 != 5) = true := bne_iff_ne.mpr c7
            by_cases c8 : a0 = 6
            · rw [if_pos c8] at H
              have c8b0 : (a0 == 6) = true := beq_iff_eq.mpr c8
              have c8b1 : (a0 != 6) = false := bne_eq_false_iff_eq.mpr c8
              clear c8
              by_cases c9 : a1 = 1
              · rw [if_pos c9] at H
                have c9b0 : (a1 == 1) = true := beq_iff_eq.mpr c9
                have c9b1 : (a1 != 1) = false := bne_eq_false_iff_eq.mpr c9
                clear c9
                obtain rfl := Option.some.inj H
                go_wp2
                go_ret
                exact ⟨by first | rfl | (simp; done) | (simp [*]; done), by repeat (first | exact Drawn0.refl _ | apply Drawn0.step)⟩
              · rw [if_neg c9] at H
                have c9b0 : (a1 == 1) = false := beq_eq_false_iff_ne.mpr c9
                have c9b1 : (a1 != 1) = true := bne_iff_ne.mpr c9
                obtain rfl := Option.some.inj H
                go_wp2
                go_ret
                exact ⟨by first | rfl | (simp; done) | (simp [*]; done), by repeat (first | exact Drawn0.refl _ | apply Drawn0.step)⟩
            · rw [if_neg c8] at H
              have c8b0 : (a0 == 6) = false := beq_eq_false_iff_ne.mpr c8
              have c8b1 : (a0 != 6) = true := bne_iff_ne.mpr c8
              obtain rfl := Option.some.inj H
              go_wp2
              go_ret
              exact ⟨by first | rfl | (simp; done) | (simp [*]; done), by repeat (first | exact Drawn0.refl _ | apply Drawn0.step)⟩
end Go.Proofs.Ytbbhichndfbooaa.P
namespace Go.Proofs.Ytbbhichndfbooaa.P
open Go.RowKit Go.Proofs.YtbbhichndfbooaaW.PrintWords Go.Proofs.YtbbhichndfbooaaW.PrintLast Go.Proofs.YtbbhichndfbooaaW.PrintMore Go.Maps Go.ChangeShapes Go.WideShapes Go.WideMaps
set_option linter.unusedVariables false
set_option linter.unusedSimpArgs false
/-- Whether an act is possible in a state. -/
def stateB (kind s : Int) : Bool := if kind = 2 then s == 1 else if kind = 3 then s == 2 else if kind = 4 then s == 2 else if kind = 5 then s == 4 else if kind = 6 then (s == 1 || s == 4) else s == 3
/-- What the reference's Act answers and leaves. -/
def ractOf (S : FlowS) (kind id : Int) (user : ByteArray) : Int × FlowS :=
  match docAt S id with
  | none => (1, S)
  | some D => if codeB user = false then (7, S) else if stateB kind D.st = false then (18, S) else if permB S D.au (whoOf kind) user = false then (19, S)
    else if (nextOf S kind D user).2 = 0 then (0, actedS S kind id user (nextOf S kind D user).1) else ((nextOf S kind D user).2, S)
theorem state_ev (kind s : Int) : ∃ k, accountingref15_state.f k kind s = some (stateB kind s) := by
  refine ⟨10, ?_⟩
  unfold accountingref15_state.f stateB
  by_cases h2 : kind = 2
  · rw [if_pos h2, if_pos h2]
  rw [if_neg h2, if_neg h2]
  by_cases h3 : kind = 3
  · rw [if_pos h3, if_pos h3]
    subst h3
    simp [accountingref15_state.j0]
  rw [if_neg h3, if_neg h3]
  by_cases h4 : kind = 4
  · rw [if_pos h4]
    subst h4
    simp [accountingref15_state.j0]
  rw [if_neg h4]
  have e4 : (kind == 4) = false := beq_eq_false_iff_ne.mpr h4
  rw [e4]
  simp only [accountingref15_state.j0, Bool.false_eq_true, if_false]
  by_cases h5 : kind = 5
  · rw [if_pos h5, if_pos h5]
  rw [if_neg h5, if_neg h5]
  by_cases h6 : kind = 6
  · rw [if_pos h6, if_pos h6]
    by_cases h1 : s = 1
    · rw [if_pos h1]; subst h1; rfl
    · rw [if_neg h1, beq_eq_false_iff_ne.mpr h1, Bool.false_or]
  rw [if_neg h6, if_neg h6]
theorem state_is {kind s : Int} {b : Bool} (h : stateB kind s = b) (w : World) : Calls Try.prog 40 #[.int .i64 kind, .int .i64 s] w fun e w' => e = .returned (.bool b) ∧ Drawn0 w w' := by
  obtain ⟨k, hk⟩ := state_ev kind s
  exact accountingref15_state.calls k kind s b w (by rw [hk, h])
theorem rperm_is {q : Nat} {S : FlowS} {F : Nat → Prop} {kind : Int} {user : ByteArray} {D : DocS} {v : Value} {w : World} {b : Bool} (h : Rfl w F q S) (hn : S.appr.length ≤ 1000000) (hb : permB S D.au (whoOf kind) user = b) :
    Calls Try.prog 41 #[.pointer (some ⟨q, 0, none⟩), .int .i64 kind, .agg #[.string D.au, .int .i64 D.vo, .int .i64 D.st, v], .string user] w fun e w' => e = .returned (.bool b) ∧ Below w.heap.size w w' := hb ▸ rpermitted_calls q S F kind user D v w h hn
theorem rnext_is {q : Nat} {S : FlowS} {F : Nat → Prop} {kind : Int} {user : ByteArray} {D E : DocS} {err : Int} {A : Option Addr} {c : Nat} {w : World} (h : Rfl w F q S) (hr : Kd.string.R 9 w 0 F (.slice A D.ap.length c) D.ap) (hn : D.ap.length ≤ 1000000) (he : nextOf S kind D user = (E, err)) :
    Calls Try.prog 42 #[.pointer (some ⟨q, 0, none⟩), .int .i64 kind, .agg #[.string D.au, .int .i64 D.vo, .int .i64 D.st, .slice A D.ap.length c], .string user] w fun e w' => NextPost F w w' e E err := by
  have := rnext_calls q S F kind user D A c w h hr hn
  rw [he] at this
  exact this
theorem R_zero {α : Type} {d : Kd α} {e : TypeId} {W : World} {base : Nat} {ok : Nat → Prop} {ad : Addr} {n cap : Nat} {xs : List α} (h : d.R e W base ok (.slice (some ad) n cap) xs) : ∃ b, ad = ⟨b, 0, none⟩ := by
  obtain ⟨_, inner, ⟨_, ho⟩, _⟩ := h
  rcases ho with ⟨hv, _⟩ | ⟨b, _, _, hv, _⟩
  · cases hv
  · simp only [Value.slice.injEq, Option.some.injEq] at hv
    exact ⟨b, hv.1⟩
/-- Element j of the documents is written. -/
theorem docs_set {w w' : World} {ok : Nat → Prop} {b n c j : Nat} {rs : List RawD} (h : kD.R 78 w 0 ok (.slice (some ⟨b, 0, none⟩) n c) rs) (hj : j < n) (y : RawD)
    (hw : w' = (((w.setCell ⟨b, j * 4, none⟩ (.string y.au)).setCell ⟨b, j * 4 + 1, none⟩ (.int .i64 y.vo)).setCell ⟨b, j * 4 + 2, none⟩ (.int .i64 y.st)).setCell ⟨b, j * 4 + 3, none⟩ (.slice y.A y.n y.c)) :
    kD.R 78 w' 0 ok (.slice (some ⟨b, 0, none⟩) n c) (rs.set j y) ∧ w.grownBy w' (some b) := by
  obtain ⟨cs, hl, _, hcc, _⟩ := Kd.R_elem h zD (j : Int) (by omega) (by omega)
  have := Kd.R_seg (okp := fun _ => False) h (j : Int) (by omega) (by omega) (seg := [.string y.au, .int .i64 y.vo, .int .i64 y.st, .slice y.A y.n y.c]) (j := 0) hl hcc (by show 0 + 4 ≤ 4; omega) (x' := y) (by
    show _ = _
    have hl : cs.length = 4 := hl
    simp [hl]) (fun _ hk => hk.elim)
  rw [Int.toNat_natCast] at this
  have e : w' = w.setCells b (j * kD.sz + 0) [.string y.au, .int .i64 y.vo, .int .i64 y.st, .slice y.A y.n y.c] := by
    rw [hw]
    rfl
  rw [e]
  exact this
/-- The workflow with a document set. -/
theorem RflP.set_doc {w w' : World} {F : Nat → Prop} {q : Nat} {S : FlowS} {L : RParts} {j b c n0 : Nat} {E : DocS} {A : Option Addr} {k : Nat} (h : RflP w F q S L) (hv : L.vd = .slice (some ⟨b, 0, none⟩) L.rs.length c) (hj : j < L.rs.length) (hn0 : n0 ≤ w.heap.size)
    (hr : Kd.string.R 9 w 0 (fun k => F k ∨ n0 ≤ k) (.slice A E.ap.length k) E.ap)
    (hw : w' = (((w.setCell ⟨b, j * 4, none⟩ (.string E.au)).setCell ⟨b, j * 4 + 1, none⟩ (.int .i64 E.vo)).setCell ⟨b, j * 4 + 2, none⟩ (.int .i64 E.st)).setCell ⟨b, j * 4 + 3, none⟩ (.slice A E.ap.length k)) :
    RflP w' (fun k => (F k ∨ n0 ≤ k) ∧ k < w'.heap.size) q { S with docs := S.docs.set j E } { L with rs := L.rs.set j ⟨E.au, E.vo, E.st, A, E.ap.length, k⟩ } ∧ But F w w' := by
  have hD := h.rowd
  rw [hv] at hD
  obtain ⟨h1, hg⟩ := docs_set hD hj ⟨E.au, E.vo, E.st, A, E.ap.length, k⟩ hw
  obtain ⟨cur, hcur⟩ := Kd.R_typed hD b rfl
  have hFG : ∀ k, F k → (F k ∨ n0 ≤ k) ∧ k < w'.heap.size := fun k hk => ⟨.inl hk, Nat.lt_of_lt_of_le (h.lt k hk) hg.size⟩
  refine ⟨h.turned_docs (vd := L.vd) hFG (fun k hk hp hd => hg.block k (h.lt k hk) (fun e => hd (by rw [hv]; exact e.symm))) ((blk_grown h.blk hg (fun e => typed_ne (h.td (k := b) (by rw [hv]; rfl)) h.tq (by decide) (Option.some.inj e).symm)))
    (by rw [hv]; exact Kd.R_mono (Kd.R_bound h1) (fun k hk => ⟨.inl hk.1, hk.2.2.1⟩)) (by rw [List.length_set, List.length_set, h.len]) (fun hm9 i x D g1 g2 => ?_) (fun k hk => hk.2), But.of_grown hg (fun k hk => by obtain rfl := Option.some.inj hk; exact hD.1 _ rfl)⟩
  rcases get_set g1 with ⟨rfl, rfl⟩ | ⟨hne, g1⟩
  · rcases get_set g2 with ⟨_, rfl⟩ | ⟨hne, _⟩
    · exact ⟨rfl, rfl, rfl, Kd.R_mono (Kd.R_bound (Kd.R_step (Kd.R_types hr hcur (by decide)) (fun k hk hlt => hg.block k hlt (fun e => hk.2 (Option.some.inj e))))) (fun k hk => ⟨hk.1.1, hk.2.2.1⟩)⟩
    · exact absurd rfl hne
  · rcases get_set g2 with ⟨e, _⟩ | ⟨_, g2⟩
    · exact absurd e hne
    · exact (h.docs i x D g1 g2).move hFG hm9
set_option maxHeartbeats 8000000 in
set_option maxRecDepth 100000 in
theorem ract_calls (q : Nat) (S S' : FlowS) (F : Nat → Prop) (kind id : Int) (hid : (Lit.int .i64 id).wf = true) (user : ByteArray) (hu : user.size ≤ 100000) (w : World) (h : Rfl w F q S) (hn : S.acts.length ≤ 1000000) (ha : S.appr.length ≤ 1000000) (hd : (docD S id).ap.length ≤ 1000000) {err : Int} (hq : ractOf S kind id user = (err, S')) :
    Calls Try.prog 19 #[.pointer (some ⟨q, 0, none⟩), .int .i64 kind, .int .i64 id, .string user] w fun e w' => e = .returned (.int .i64 err) ∧ RAfter F w w' q S' := by
  have HF := Aside0.mk h
  have HU := Aside0.mk hu
  have HN := Aside0.mk hn
  have HA := Aside0.mk ha
  have HQ := Aside0.mk hq
  have HW := Aside0.mk hid
  obtain ⟨lo, hi⟩ := wf_range hid
  clear hu hn ha hq
  rcases docAt_cases S id with ⟨h1, -⟩ | ⟨j, D, h1, rfl, h3, h4⟩
  · have HI := Aside0.mk (show (docAt S id).isSome = false by rw [h1]; rfl)
    have hE := HQ.out
    unfold ractOf at hE
    rw [h1] at hE
    obtain ⟨rfl, rfl⟩ := Prod.mk.inj hE
    clear hE h h1 HQ hd
    go_enter Try.func19, Try.ntmps19
    go_wp2_with (first | (go_at_call 39; refine (rthere_is HW.out HF.out HI.out).mono ?_; rintro e w' ⟨rfl, he_⟩; obtain rfl := he_.symm))
    go_ret
    exact ⟨rfl, RAfter.below HF.out (Below.refl _ _)⟩
  have HI := Aside0.mk (show (docAt S ((j : Int) + 1)).isSome = true by rw [h1]; rfl)
  rw [docD_of h1] at hd
  have HAP := Aside0.mk hd
  have hE := HQ.out
  unfold ractOf at hE
  rw [h1] at hE
  have HE := Aside0.mk hE
  clear hE HQ hd
  obtain ⟨L, h⟩ := h
  obtain ⟨A, c, hv⟩ := Kd.R_slice h.rowd
  have BK := h.blk
  have hR := h.rowd
  rw [hv] at BK hR
  have c2 := (blk_cell BK 2).trans rfl
  have hC := (Kd.R_reads' hR).2.2
  have hjl : j < L.rs.length := by rw [h.len]; exact h3
  obtain ⟨ad, e, q0, q1, q2, q3⟩ := at_kD hC j hjl
  subst e
  have hX : L.rs[j]? = some (L.rs.getD j zD) := by simp [hjl]
  have hD := h.docs j _ _ hX h4
  obtain ⟨x, hx⟩ : ∃ x, L.rs.getD j zD = x := ⟨_, rfl⟩
  rw [hx] at q0 q1 q2 q3 hD
  obtain ⟨xA, xc, ex⟩ := Kd.R_slice hD.row
  simp only [Value.slice.injEq] at ex
  obtain ⟨_, ex2, _⟩ := ex
  have hrow := hD.row
  rw [ex2] at hrow q3
  rw [hD.au] at q0
  rw [hD.vo] at q1
  rw [hD.st] at q2
  have HROW := Aside0.mk hrow
  have HL := Aside0.mk h
  have HJ := Aside0.mk h3
  have HJ4 := Aside0.mk h4
  have HJL := Aside0.mk hjl
  have HC := Aside0.mk hR
  have HV := Aside0.mk hv
  have HD1 := Aside0.mk h1
  obtain ⟨sA, hsA⟩ : ∃ z, x.A = z := ⟨_, rfl⟩
  obtain ⟨sc, hsc⟩ : ∃ z, x.c = z := ⟨_, rfl⟩
  rw [hsA, hsc] at HROW q3
  have e2 : wrap64 (j : Int) = (j : Int) := by unfold wrap64; omega
  have p0 : (0 : Int) ≤ (j : Int) := by omega
  have p1 : (j : Int) < (L.rs.length : Int) := by omega
  clear h h1 hC hR BK hX hx hD hv h3 h4 lo hi hjl hrow ex2 hsA hsc hid
  go_enter Try.func19, Try.ntmps19
  go_upto_region 4 with (first | (go_at_call 39; refine (rthere_is HW.out HF.out HI.out).mono ?_; rintro e w' ⟨rfl, he_⟩; obtain rfl := he_.symm))
  refine with_world (P := fun x => Code.wp _ _ _ _ x) _ ?_
  intro w1 hw1
  have BK1 : w1.heap[w.heap.size]? = some (.cells #[.string D.au, .int .i64 D.vo, .int .i64 D.st, .slice sA D.ap.length sc] 78 (0, 0)) := by rw [hw1]; exact blk_new w _
  have HB1 := Aside0.mk (show Below w.heap.size w w1 from by rw [hw1]; exact below_alloc (Below.refl _ _) _)
  obtain ⟨g, hg⟩ : ∃ g, w.heap.size = g := ⟨_, rfl⟩
  rw [hg] at BK1 ⊢
  have HG := Aside0.mk (show w.heap.size ≤ g from Nat.le_of_eq hg)
  have HK1 := Aside0.mk BK1
  clear hw1 hg c2 q0 q1 q2 q3 BK1
  have hE := HE.out
  cases hc : codeB user
  · rw [hc, if_pos rfl] at hE
    obtain ⟨rfl, rfl⟩ := Prod.mk.inj hE
    have HC0 := Aside0.mk hc
    clear hE hc HE
    go_wp2_with (first | (go_at_call 34; refine (rcode_is HU.out HC0.out _).mono ?_; rintro e w' ⟨rfl, ⟨nd, rfl⟩⟩))
    go_ret
    exact ⟨rfl, RAfter.below HF.out (pw_below_drewN HB1.out _)⟩
  rw [hc, if_neg (by decide)] at hE
  have HC0 := Aside0.mk hc
  clear hc
  go_upto_region 6 with (first | (go_at_call 34; refine (rcode_is HU.out HC0.out _).mono ?_; rintro e w' ⟨rfl, ⟨nd, rfl⟩⟩))
  have HB2 := Aside0.mk (pw_below_drewN HB1.out nd)
  have HK2 := Aside0.mk (blk_drewN HK1.out nd)
  clear HB1 HK1
  generalize w1.drewN nd = w2 at HB2 HK2 ⊢
  have g2 := (blk_cell HK2.out 2).trans rfl
  cases hs : stateB kind D.st
  · rw [hs, if_pos rfl] at hE
    obtain ⟨rfl, rfl⟩ := Prod.mk.inj hE
    have HS0 := Aside0.mk hs
    clear hE hs HE
    go_wp2_with (first | (go_at_call 40; refine (state_is HS0.out _).mono ?_; rintro e w' ⟨rfl, ⟨nd, rfl⟩⟩))
    go_ret
    exact ⟨rfl, RAfter.below HF.out (pw_below_drewN HB2.out _)⟩
  rw [hs, if_neg (by decide)] at hE
  have HS0 := Aside0.mk hs
  clear hs
  go_upto_region 8 with (first | (go_at_call 40; refine (state_is HS0.out _).mono ?_; rintro e w' ⟨rfl, ⟨nd, rfl⟩⟩))
  have HB3 := Aside0.mk (pw_below_drewN HB2.out nd)
  have HK3 := Aside0.mk (blk_drewN HK2.out nd)
  clear HB2 HK2 g2
  generalize w2.drewN nd = w3 at HB3 HK3 ⊢
  have g0 := (blk_cell HK3.out 0).trans rfl
  have g1 := (blk_cell HK3.out 1).trans rfl
  have g2 := (blk_cell HK3.out 2).trans rfl
  have g3 := (blk_cell HK3.out 3).trans rfl
  cases hp : permB S D.au (whoOf kind) user
  · rw [hp, if_pos rfl] at hE
    obtain ⟨rfl, rfl⟩ := Prod.mk.inj hE
    have HP0 := Aside0.mk hp
    clear hE hp HE
    go_wp2_with (first | (go_at_call 41; refine (rperm_is (HF.out.below HB3.out) HA.out HP0.out).mono ?_; rintro e w' ⟨rfl, hb_⟩; have HB4 := Aside0.mk hb_; clear hb_))
    go_ret
    exact ⟨rfl, RAfter.below HF.out (below_then HB3.out HB3.out.size HB4.out)⟩
  rw [hp, if_neg (by decide)] at hE
  have HP0 := Aside0.mk hp
  clear hp
  go_upto_region 10 with (first | (go_at_call 41; refine (rperm_is (HF.out.below HB3.out) HA.out HP0.out).mono ?_; rintro e w4 ⟨rfl, hb_⟩; have HB34 := Aside0.mk hb_; clear hb_))
  have HB4 := Aside0.mk (below_then HB3.out HB3.out.size HB34.out)
  have HK4 := Aside0.mk (blk_below HK3.out HB34.out)
  clear g0 g1 g2 g3 HB3 HK3 HB34
  have g0 := (blk_cell HK4.out 0).trans rfl
  have g1 := (blk_cell HK4.out 1).trans rfl
  have g2 := (blk_cell HK4.out 2).trans rfl
  have g3 := (blk_cell HK4.out 3).trans rfl
  obtain ⟨⟨E, er⟩, hnx⟩ : ∃ z, nextOf S kind D user = z := ⟨_, rfl⟩
  rw [hnx] at hE
  have HE5 := Aside0.mk hE
  have HNX := Aside0.mk hnx
  clear hE hnx HE
  go_upto_region 11 with (first | (go_at_call 42; refine (rnext_is (HF.out.below HB4.out) (Kd.R_below HROW.out HB4.out) HAP.out HNX.out).mono ?_; rintro e w5 ⟨hb_, A5, c5, rfl, hr_⟩; have HB45 := Aside0.mk hb_; have HR5 := Aside0.mk hr_; have HK5 := Aside0.mk (blk_below HK4.out hb_); have f0 := blk_frozen HK5.out 0; have f1 := blk_frozen HK5.out 1; have f2 := blk_frozen HK5.out 2; have f3 := blk_frozen HK5.out 3; have u0 := (blk_cell HK5.out 0).trans rfl; have u1 := (blk_cell HK5.out 1).trans rfl; have u2 := (blk_cell HK5.out 2).trans rfl; have u3 := (blk_cell HK5.out 3).trans rfl; clear hb_ hr_ g0 g1 g2 g3))
  refine with_world (P := fun x => Code.wp _ _ _ _ x) _ ?_
  intro w6 hw6
  have HB5 := Aside0.mk (below_then HB4.out HB4.out.size HB45.out)
  have HB6 := Aside0.mk (show Below w.heap.size w w6 from by rw [hw6]; exact below_set (below_set (below_set (below_set HB5.out HG.out) HG.out) HG.out) HG.out)
  have HK6 := Aside0.mk (show w6.heap[g]? = some (.cells #[.string E.au, .int .i64 E.vo, .int .i64 E.st, .slice A5 E.ap.length c5] 78 (0, 0)) from by rw [hw6]; exact set4 HK5.out)
  have HR6 := Aside0.mk (show Kd.string.R 9 w6 0 (fun k => F k ∨ w.heap.size ≤ k) (.slice A5 E.ap.length c5) E.ap from by
    have h1 := Kd.R_types HR5.out HK5.out (by decide)
    rw [hw6]
    refine Kd.R_mono (Kd.R_far (p := ⟨g, 3, none⟩) (Kd.R_far (p := ⟨g, 2, none⟩) (Kd.R_far (p := ⟨g, 1, none⟩) (Kd.R_far (p := ⟨g, 0, none⟩) h1 (fun k hk => hk.2) _) (fun k hk => hk.2) _) (fun k hk => hk.2) _) (fun k hk => hk.2) _) (fun k hk => hk.1.elim .inl (fun h => .inr (Nat.le_trans HB4.out.size h))))
  clear hw6 u0 u1 u2 u3 f0 f1 f2 f3 HR5 HK5 HB45 HB4 HK4 HB5
  have hE := HE5.out
  by_cases h0 : er = 0
  · subst h0
    rw [if_pos rfl] at hE
    obtain ⟨rfl, rfl⟩ := Prod.mk.inj hE
    clear hE HE5
    have c2 := (blk_cell (blk_below HL.out.blk HB6.out) 2).trans (show _ = some (Value.slice (some ad) L.rs.length c) from by rw [HV.out]; rfl)
    have g0 := (blk_cell HK6.out 0).trans rfl
    have g1 := (blk_cell HK6.out 1).trans rfl
    have g2 := (blk_cell HK6.out 2).trans rfl
    have g3 := (blk_cell HK6.out 3).trans rfl
    have hR6 := Kd.R_below HC.out HB6.out
    have HD6 := Aside0.mk hR6
    obtain ⟨b, hb⟩ := R_zero hR6
    obtain ⟨cur, hcur⟩ := Kd.R_typed hR6 b (by rw [hb]; rfl)
    obtain ⟨ad', e_, q0, q1, q2, q3⟩ := at_kD (Kd.R_reads' hR6).2.2 j HJL.out
    obtain rfl : ad = ad' := Option.some.inj e_
    rw [hb, WideShapes.add_plain, Nat.zero_add] at q0 q1 q2 q3
    subst hb
    have f0 := blk_frozen hcur (j * 4)
    have f1 := blk_frozen hcur (j * 4 + 1)
    have f2 := blk_frozen hcur (j * 4 + 2)
    have f3 := blk_frozen hcur (j * 4 + 3)
    have HCB := Aside0.mk hcur
    clear hcur hR6 e_
    go_upto_region 13 with (fail)
    go_region
    go_upto_region 14 with (fail)
    refine with_world (P := fun x => Code.wp _ _ _ _ x) _ ?_
    intro w7 hw7
    obtain ⟨wx, hwx⟩ : ∃ wx, wx = (((w6.setCell ⟨b, j * 4, none⟩ (.string E.au)).setCell ⟨b, j * 4 + 1, none⟩ (.int .i64 E.vo)).setCell ⟨b, j * 4 + 2, none⟩ (.int .i64 E.st)).setCell ⟨b, j * 4 + 3, none⟩ (.slice A5 E.ap.length c5) := ⟨_, rfl⟩
    rw [← hwx] at hw7
    obtain ⟨hx, hbx⟩ := (HL.out.below HB6.out).set_doc HV.out HJL.out HB6.out.size HR6.out hwx
    have HF7 := Aside0.mk (show RflP w7 _ q _ _ from hw7 ▸ hx.keep (w' := wx.drew) (fun _ _ => rfl))
    have HS7 := Aside0.mk (show Stp F (fun k => (F k ∨ w.heap.size ≤ k) ∧ k < wx.heap.size) w w7 from hw7 ▸ Stp.below (⟨(But.of_below HB6.out F).trans hbx, fun k hk => hk.1⟩) (below_drew (Below.refl _ _)))
    clear hw7 hwx hx hbx q0 q1 q2 q3 f0 f1 f2 f3 g0 g1 g2 g3 c2
    go_wp2_with (first | (go_at_call 38; refine (rnote_calls q _ _ _ kind _ user _ HF7.out HN.out).mono ?_; rintro e w' ⟨rfl, hh_⟩; have HA8 := Aside0.mk hh_; clear hh_))
    go_ret
    have HX := RAfter.then HS7.out HA8.out
    unfold actedS
    rw [show ((j : Int) + 1 - 1).toNat = j by omega]
    exact ⟨rfl, HX⟩
  · rw [if_neg h0] at hE
    obtain ⟨rfl, rfl⟩ := Prod.mk.inj hE
    have hb := bne_iff_ne.mpr h0
    clear hE HE5 h0
    go_wp2
    go_ret
    exact ⟨rfl, RAfter.below HF.out HB6.out⟩
section
variable {A0 A1 : Option Addr} {c0 c1 : Nat} {steps : List S60} {apprs : List ByteArray} {w : World}
theorem new_bad (h0 : Kd.C k60 w A0 steps.length steps) (hc0 : steps.length ≤ c0) (h1 : Kd.string.C w A1 apprs.length apprs) {kr : Nat} {rt : Bool} (hr : flow_right.f kr steps = some rt) {err : Int} (he : newErr rt steps apprs = err) (hne : err ≠ 0) :
    Calls Try.prog 11 #[.slice A0 steps.length c0, .slice A1 apprs.length c1] w fun e w' => e = .returned (.tuple #[.pointer none, .int .i64 err]) ∧ Below w.heap.size w w' := by
  refine (new_calls A0 c0 steps A1 c1 apprs w h0 hc0 h1 kr rt hr).mono ?_
  rw [he]
  rintro e w' ⟨hb, ⟨_, rfl⟩ | ⟨h, _⟩⟩
  · exact ⟨rfl, hb⟩
  · exact absurd h hne
theorem new_good (h0 : Kd.C k60 w A0 steps.length steps) (hc0 : steps.length ≤ c0) (h1 : Kd.string.C w A1 apprs.length apprs) {kr : Nat} {rt : Bool} (hr : flow_right.f kr steps = some rt) (he : newErr rt steps apprs = 0) :
    Calls Try.prog 11 #[.slice A0 steps.length c0, .slice A1 apprs.length c1] w fun e w' => Below w.heap.size w w' ∧ ∃ p, e = .returned (.tuple #[.pointer (some ⟨p, 0, none⟩), .int .i64 0]) ∧ Live w w' p ⟨steps, apprs, [], []⟩ := by
  refine (new_calls A0 c0 steps A1 c1 apprs w h0 hc0 h1 kr rt hr).mono ?_
  rw [he]
  rintro e w' ⟨hb, ⟨h, _⟩ | ⟨_, p, F, rfl, hF, hk⟩⟩
  · exact absurd rfl h
  · exact ⟨hb, p, rfl, ⟨⟨F, hF, hk⟩, hb⟩⟩
end
theorem info3 : (Try.prog.info? 3).map (fun i => (i.zero, i.size, i.bytes)) = some (some (.int .i64 0), 1, 8) := by kernel_rfl
/-- The states of the first documents. -/
def befs (S : FlowS) (k : Nat) : List Int := (List.range k).map (fun (j : Nat) => stOf S (j : Int))
theorem befs_len (S : FlowS) (k : Nat) : (befs S k).length = k := by simp [befs]
theorem befs_succ (S : FlowS) (k : Nat) : befs S (k + 1) = befs S k ++ [stOf S (k : Int)] := by unfold befs; rw [List.range_succ, List.map_append]; rfl
theorem befs_rd (S : FlowS) {k n : Nat} (h : k < n) : Go.Proofs.YtbbhichndfbooaaW.PrintWords.rd (befs S n) (k : Int) = stOf S (k : Int) := by
  simp [Go.Proofs.YtbbhichndfbooaaW.PrintWords.rd, befs, h]
theorem wf_small {k : Nat} (h : k ≤ 1000) : (Lit.int .i64 (k : Int)).wf = true := by
  show (decide (IntKind.i64.min ≤ (k : Int)) && decide ((k : Int) ≤ IntKind.i64.max)) = true
  rw [Bool.and_eq_true, decide_eq_true_iff, decide_eq_true_iff]
  constructor
  · show (-9223372036854775808 : Int) ≤ (k : Int)
    omega
  · show (k : Int) ≤ 9223372036854775807
    omega
/-- The lists are no longer than any Go slice, and each number is an int. -/
def steps_ok (steps : List S60) (ops : List S46) : Prop := steps.length ≤ 9223372036854775807 ∧ ∀ o ∈ ops, (Lit.int .i64 o.f1).wf = true
instance (steps : List S60) (ops : List S46) : Decidable (steps_ok steps ops) := by unfold steps_ok; exact inferInstance
set_option maxHeartbeats 16000000 in
set_option maxRecDepth 100000 in
theorem flowApart_calls (A0 : Option Addr) (c0 : Nat) (steps : List S60) (A1 : Option Addr) (c1 : Nat) (apprs : List ByteArray) (A2 : Option Addr) (c2 : Nat) (ops : List S46) (w : World)
    (h0 : Kd.C k60 w A0 steps.length steps) (hc0 : steps.length ≤ c0) (h1 : Kd.string.C w A1 apprs.length apprs) (hc1 : apprs.length ≤ c1) (h2 : Kd.C k46 w A2 ops.length ops) (hc2 : ops.length ≤ c2) (hl : steps.length ≤ 9223372036854775807) (hwf : ∀ o ∈ ops, (Lit.int .i64 o.f1).wf = true) :
    Calls Try.prog 4 #[.agg #[.slice A0 steps.length c0, .slice A1 apprs.length c1], .slice A2 ops.length c2] w fun e w' => e = .returned (.bool true) ∧ Below w.heap.size w w' := by
  obtain ⟨rt, kr, hr⟩ := right_some steps hl
  obtain ⟨b, kl, hlt, hsm⟩ := light_some steps apprs ops
  have H0 := Aside0.mk h0
  have H1 := Aside0.mk h1
  have H2 := Aside0.mk h2
  have HR := Aside0.mk hr
  have HLT := Aside0.mk hlt
  have HSM := Aside0.mk hsm
  have HWF := Aside0.mk hwf
  clear h0 h1 h2 hr hlt hsm hwf
  obtain ⟨err, he⟩ : ∃ err, newErr rt steps apprs = err := ⟨_, rfl⟩
  have HE := Aside0.mk he
  clear he
  go_enter Try.func4, Try.ntmps4
  go_upto_region 1 with (fail)
  refine with_world (P := fun x => Code.wp _ _ _ _ x) _ ?_
  intro w1 hw1
  have BK : w1.heap[w.heap.size]? = some (.cells #[.slice A0 steps.length c0, .slice A1 apprs.length c1] 25 (0, 0)) := by rw [hw1]; exact blk_new w _
  have HB1 := Aside0.mk (show Below w.heap.size w w1 from by rw [hw1]; exact below_alloc (Below.refl _ _) _)
  obtain ⟨g, hg⟩ : ∃ g, w.heap.size = g := ⟨_, rfl⟩
  rw [hg] at BK ⊢
  clear hw1 hg
  have HBK := Aside0.mk BK
  have b0 := (blk_cell BK 0).trans rfl
  have b1 := (blk_cell BK 1).trans rfl
  clear BK
  by_cases hne : err = 0
  · subst hne
    go_upto_region 2 with (first | (go_at_call 11; refine (new_good (Kd.C_below H0.out HB1.out) hc0 (Kd.C_below H1.out HB1.out) HR.out HE.out).mono ?_; rintro e w2 ⟨hb_, p, rfl, hl_⟩; have HB12 := Aside0.mk hb_; have HL := Aside0.mk hl_; clear hb_ hl_ b0 b1))
    have HB2 := Aside0.mk (below_then HB1.out HB1.out.size HB12.out)
    have BK2 := blk_below HBK.out HB12.out
    have b0 := (blk_cell BK2 0).trans rfl
    have b1 := (blk_cell BK2 1).trans rfl
    have HLV := Aside0.mk (show Live w w2 p ⟨steps, apprs, [], []⟩ from ⟨by
      obtain ⟨⟨F, hF, hk⟩, _⟩ := HL.out
      exact ⟨F, hF, fun k hk' => Nat.le_trans HB1.out.size (hk k hk')⟩, HB2.out⟩)
    clear BK2 HL HB12 HBK HB1
    cases b
    · go_wp2_with (first | (go_at_call 9; refine (accountinglaw15_light.calls kl A0 c0 steps A1 c1 apprs A2 c2 ops false _ (Kd.C_below H0.out HB2.out) hc0 (Kd.C_below H1.out HB2.out) hc1 (Kd.C_below H2.out HB2.out) hc2 HLT.out).mono ?_; rintro e w3 ⟨rfl, hb_⟩; have HB3 := Aside0.mk (below_then HB2.out HB2.out.size hb_); clear hb_ b0 b1) | (go_at_call 10; refine (lives_calls _).mono ?_; rintro e w4 ⟨rfl, hb_⟩; have HB4 := Aside0.mk hb_; clear hb_))
      go_ret
      exact ⟨rfl, below_then HB3.out HB3.out.size HB4.out⟩
    · go_upto_region 4 with (first | (go_at_call 9; refine (accountinglaw15_light.calls kl A0 c0 steps A1 c1 apprs A2 c2 ops true _ (Kd.C_below H0.out HB2.out) hc0 (Kd.C_below H1.out HB2.out) hc1 (Kd.C_below H2.out HB2.out) hc2 HLT.out).mono ?_; rintro e w3 ⟨rfl, hb_⟩; have HL3 := Aside0.mk (HLV.out.below hb_); clear hb_ b0 b1))
      clear HLV HB2
      have hops : ops.length ≤ 40 := (HSM.out (by trivial)).2.2
      clear HSM HE HR HLT H0 H1
      go_wp2
      go_loopw [7, 8, 9, 10, 11, 12, 13, 14, 36, 37, 38, 39, 40, 41, 42, 43, 44, 45, 46, 47, 48, 49, 50, 51, 52, 53, 54, 55, 56, 57, 58, 59, 60, 61, 62, 63, 64, 65, 66, 67, 68, 69, 70, 71, 72, 73, 74, 75, 76, 77, 78, 79, 80, 81, 82, 83, 84, 85, 86, 87, 88, 89, 90, 91, 92, 93, 94, 95, 96, 97, 98, 99, 100, 101, 102, 103, 104, 105] (fun v7 _ _ _ _ _ _ _ _ _ _ _ _ _ _ _ _ _ _ _ _ _ _ _ _ _ _ _ _ _ _ _ _ _ _ _ _ _ _ _ _ _ _ _ _ _ _ _ _ _ _ _ _ _ _ _ _ _ _ _ _ _ _ _ _ _ _ _ _ _ _ _ _ _ _ _ _ _ wr => ∃ (i : Nat) (S : FlowS), i ≤ ops.length ∧ v7 = .int .i64 i ∧ Aside0 (Live w wr p S) ∧ Aside0 (Bnd S i)) (fun v7 _ _ _ _ _ _ _ _ _ _ _ _ _ _ _ _ _ _ _ _ _ _ _ _ _ _ _ _ _ _ _ _ _ _ _ _ _ _ _ _ _ _ _ _ _ _ _ _ _ _ _ _ _ _ _ _ _ _ _ _ _ _ _ _ _ _ _ _ _ _ _ _ _ _ _ _ _ _ => ops.length - (intOf v7).toNat)
      case atStart => exact ⟨0, _, Nat.zero_le _, rfl, HL3, ⟨⟨Nat.le_refl _, fun D hD => by cases hD⟩⟩⟩
      case round =>
        clear HL3
        obtain ⟨i, S, hi, rfl, HL, HBN⟩ := hrel
        rename World => wo
        by_cases hlt : i < ops.length
        · have d1 : decide ((i : Int) < (ops.length : Int)) = true := decide_eq_true (by omega)
          have d2 : decide (i < ops.length) = true := decide_eq_true hlt
          have p0 : (0 : Int) ≤ (i : Int) := by omega
          have p1 : (i : Int) < (ops.length : Int) := by omega
          go_wp2
          go_loopw [8, 9, 42, 43, 44, 45, 46, 47, 48, 49, 50, 51] (fun v8 v9 _ _ _ _ _ _ _ _ _ _ wr => ∃ k : Nat, k ≤ 42 ∧ v9 = .int .i64 k ∧ Aside0 (Below wo.heap.size wo wr) ∧ Aside0 ((Kd.int .i64).R 3 wr wo.heap.size (fun x => wo.heap.size ≤ x) v8 (befs S k))) (fun _ v9 _ _ _ _ _ _ _ _ _ _ _ => 42 - (intOf v9).toNat)
          case atStart => exact ⟨0, Nat.zero_le _, rfl, ⟨Below.refl _ _⟩, ⟨Kd.R_nil _ _ _ _ _⟩⟩
          case round =>
            obtain ⟨k, hk, rfl, HB, HRW⟩ := hrel
            obtain ⟨Ab, cb, hv⟩ := Kd.R_slice HRW.out
            subst hv
            by_cases hk41 : k ≤ 41
            · have d3 : decide ((k : Int) ≤ 41) = true := decide_eq_true (by omega)
              have d4 : decide (k ≤ 41) = true := decide_eq_true hk41
              obtain ⟨s, hs⟩ : ∃ s, stOf S (k : Int) = s := ⟨_, rfl⟩
              have HS := Aside0.mk hs
              have hbl := befs_len S k
              have HBL := Aside0.mk hbl
              clear hs hbl
              go_wp2_with (first | (go_at_call 15; refine (state_live (HL.out.below HB.out) (k : Int) (wf_small (by omega)) HS.out).mono ?_; rintro e w_ ⟨rfl, he_⟩; obtain rfl := he_.symm) | ((with_reducible refine gate_builtin (b := .append) (xs := #[.tmp 46, .tmp 50]) rfl ?_); at_builtin; refine Kd.R_append (Kd.int .i64) (w0 := wo) wo.heap.size rfl (.tmp 46) (.tmp 50) 39 3 (.int .i64 0) 8 rfl Try.underlying39 info3 rfl (by decide) (by omega) (.slice Ab (befs S k).length cb) (befs S k) s [.int .i64 s] (fun x => wo.heap.size ≤ x) (fun _ => False) rfl rfl ?aP (fun _ hk => hk.elim) ?aF ?aO ?aB ?aS ?aL ?_; (case aP => exact rfl); (case aF => exact fun x hx => Nat.le_trans HB.out.size hx); (case aO => exact HRW.out); (case aB => exact HB.out); (case aS => exact HB.out.size); (case aL => rw [HBL.out]; omega); intro v1 w2 ho hb hg hat; have HO := Aside0.mk ho; have HB2 := Aside0.mk hb; clear ho hb hg hat))
              go_roundw
              case rel => exact ⟨k + 1, by omega, by go_num, HB2, ⟨by rw [befs_succ, HS.out]; exact HO.out⟩⟩
              case measure => simp [intOf]; omega
            · obtain rfl : k = 42 := by omega
              have d3 : decide (((42 : Nat) : Int) ≤ 41) = false := by decide
              rename World => w5
              obtain ⟨⟨F, hF, hFk⟩, hlow⟩ := HL.out
              have HF5 := Aside0.mk (hF.below HB.out)
              have hn : S.acts.length ≤ 1000000 := by have := HBN.out.acts; omega
              have HFO := Aside0.mk hF
              have HFK := Aside0.mk hFk
              have HLO := Aside0.mk hlow
              clear hF hFk hlow
              go_upto_region 13 with (first | (go_at_call 16; refine (acts_calls p S F _ HF5.out hn).mono ?_; rintro e_ w6 ⟨v, rfl, hr_, hb_⟩; obtain ⟨Aa, ca, rfl⟩ := Kd.R_slice hr_; have HB6 := Aside0.mk hb_; clear hr_ hb_))
              have HB06 := Aside0.mk (below_then HB.out HB.out.size HB6.out)
              have HLW6 := Aside0.mk (below_then HLO.out HLO.out.size HB06.out)
              have HF6 := Aside0.mk (HFO.out.below HB06.out)
              have HR6 := Aside0.mk (Kd.R_below HRW.out HB6.out)
              clear HB6 HF5 HRW HB
              have hu46 := Try.underlying46
              obtain ⟨ad, e, q0, q1, q2, q3⟩ := at_T46 (Kd.C_below H2.out HLW6.out) (i : Int) (by omega) (by omega)
              subst e
              rw [Int.toNat_natCast] at q0 q1 q2 q3
              obtain ⟨o, ho⟩ : ∃ o, rd_T46 ops (i : Int) = o := ⟨_, rfl⟩
              have hom : o ∈ ops := by rw [← ho]; simp [rd_T46, hlt]
              rw [ho] at q0 q1 q2 q3
              have HOO := Aside0.mk ho
              have hwo := HWF.out o hom
              have HWO := Aside0.mk hwo
              clear ho hom hwo
              obtain ⟨pi, pe, S2, hq⟩ : ∃ pi pe S2, playOf S o = (pi, pe, S2) := ⟨_, _, _, rfl⟩
              have HQ := Aside0.mk hq
              have HSTP := Aside0.mk (play_step hq HBN.out)
              clear hq
              go_upto_region 14 with (first | (go_at_call 17; refine (play_after HF6.out o HWO.out hn (Nat.le_trans (HBN.out.doc _) (by omega)) HQ.out).mono ?_; rintro e_ w7 ⟨rfl, hA_⟩; have HA := Aside0.mk hA_; clear hA_ q0 q1 q2 q3))
              have HL7 := Aside0.mk (Live.after HLW6.out HFK.out HA.out)
              obtain ⟨G, hG, hs⟩ := HA.out
              have HG7 := Aside0.mk hG
              have HRW7 := Aside0.mk (show (Kd.int .i64).R 3 w7 wo.heap.size (fun x => wo.heap.size ≤ x) (.slice Ab (befs S 42).length cb) (befs S 42) from
                Kd.R_step HR6.out (fun x hx hlt6 => hs.but.block x hlt6 (fun hFx => by have := HFO.out.lt x hFx; omega)))
              clear hG hs HA HR6
              obtain ⟨ad2, e, q0, q1, q2, q3⟩ := at_T46 (Kd.C_below H2.out HL7.out.low) (i : Int) (by omega) (by omega)
              obtain rfl : ad = ad2 := Option.some.inj e
              rw [Int.toNat_natCast, HOO.out] at q0 q1
              clear e q2 q3
              by_cases hk1 : o.f0 = 1
              · have hd : (o.f0 == (1 : Int)) = true := by rw [hk1]; rfl
                have HAT := Aside0.mk (show ∀ x, x ≠ pi → pe = 0 → stOf S2 x = stOf S x from fun x hx he => by
                  rcases HSTP.out.2 with ⟨h1, _⟩ | ⟨_, _, h3⟩
                  · exact absurd he h1
                  · exact h3 x (by rw [if_pos hk1]; exact hx))
                clear hk1
                go_wp2
                go_loopw [14, 76, 77, 78, 79, 80, 81, 82, 83, 84, 85, 86, 87, 88, 89, 90, 91, 92, 93, 94, 95, 96] (fun v14 _ _ _ _ _ _ _ _ _ _ _ _ _ _ _ _ _ _ _ _ _ wr => ∃ x : Nat, x ≤ 42 ∧ v14 = .int .i64 x ∧ Drawn0 w7 wr) (fun v14 _ _ _ _ _ _ _ _ _ _ _ _ _ _ _ _ _ _ _ _ _ _ => 42 - (intOf v14).toNat)
                case atStart => exact ⟨0, Nat.zero_le _, rfl, by repeat (first | exact Drawn0.refl _ | apply Drawn0.step)⟩
                case round =>
                  clear q0 q1
                  obtain ⟨x, hx, rfl, ⟨n, rfl⟩⟩ := hrel
                  by_cases hx41 : x ≤ 41
                  · have d3 : decide ((x : Int) ≤ 41) = true := decide_eq_true (by omega)
                    have d4 : decide (x ≤ 41) = true := decide_eq_true hx41
                    obtain ⟨s2, hs2⟩ : ∃ s2, stOf S2 (x : Int) = s2 := ⟨_, rfl⟩
                    have HS2 := Aside0.mk hs2
                    obtain ⟨ab, e, qb⟩ := Kd.at_int (Kd.C_drewN (Kd.R_reads' HRW7.out).2.2 n) (x : Int) (by omega) (by rw [befs_len]; omega)
                    subst e
                    rw [Int.toNat_natCast, befs_rd S (by omega)] at qb
                    have qb0 : w7.cell? (ab.add x) = some (.int .i64 (stOf S (x : Int))) := qb
                    have p2 : (0 : Int) ≤ (x : Int) := by omega
                    have p3 : (x : Int) < ((befs S 42).length : Int) := by rw [befs_len]; omega
                    have d5 : decide (x < (befs S 42).length) = true := decide_eq_true (by rw [befs_len]; omega)
                    by_cases hse : s2 = stOf S (x : Int)
                    · have dn : (s2 != stOf S (x : Int)) = false := bne_eq_false_iff_eq.mpr hse
                      clear hs2 hse
                      go_wp2
                      go_quiet (first | (go_at_call 15; refine (state_live (HL7.out.below (by repeat (first | exact Below.refl _ _ | apply pw_below_drewN | apply below_drew))) (x : Int) (wf_small (by omega)) HS2.out).mono ?_; rintro e_ w_ ⟨rfl, he_⟩; first | exact ⟨rfl, _, he_⟩ | (obtain rfl := he_.symm)))
                      go_wp2_with (first | (go_at_call 15; refine (state_live (HL7.out.below (by repeat (first | exact Below.refl _ _ | apply pw_below_drewN | apply below_drew))) (x : Int) (wf_small (by omega)) HS2.out).mono ?_; rintro e_ w_ ⟨rfl, he_⟩; first | exact ⟨rfl, _, he_⟩ | (obtain rfl := he_.symm)))
                      go_roundw
                      case rel => exact ⟨x + 1, by omega, by go_num, by repeat (first | exact Drawn0.refl _ | apply Drawn0.step)⟩
                      case measure => simp [intOf]; omega
                    · have dn : (s2 != stOf S (x : Int)) = true := bne_iff_ne.mpr hse
                      have hpe : pe = 0 := by
                        rcases HSTP.out.2 with ⟨_, h2⟩ | ⟨h1, _⟩
                        · rw [h2] at hs2; exact absurd hs2.symm hse
                        · exact h1
                      have hxa : (x : Int) = pi := by
                        by_cases hxa : (x : Int) = pi
                        · exact hxa
                        · exact absurd (hs2.symm.trans (HAT.out _ hxa hpe)) hse
                      have de : (pe != (0 : Int)) = false := by rw [hpe]; rfl
                      have da : ((x : Int) != pi) = false := bne_eq_false_iff_eq.mpr hxa
                      clear hs2 hse hpe hxa
                      go_wp2
                      go_quiet (first | (go_at_call 15; refine (state_live (HL7.out.below (by repeat (first | exact Below.refl _ _ | apply pw_below_drewN | apply below_drew))) (x : Int) (wf_small (by omega)) HS2.out).mono ?_; rintro e_ w_ ⟨rfl, he_⟩; first | exact ⟨rfl, _, he_⟩ | (obtain rfl := he_.symm)))
                      go_wp2_with (first | (go_at_call 15; refine (state_live (HL7.out.below (by repeat (first | exact Below.refl _ _ | apply pw_below_drewN | apply below_drew))) (x : Int) (wf_small (by omega)) HS2.out).mono ?_; rintro e_ w_ ⟨rfl, he_⟩; first | exact ⟨rfl, _, he_⟩ | (obtain rfl := he_.symm)))
                      go_roundw
                      case rel => exact ⟨x + 1, by omega, by go_num, by repeat (first | exact Drawn0.refl _ | apply Drawn0.step)⟩
                      case measure => simp [intOf]; omega
                  · obtain rfl : x = 42 := by omega
                    have hwn : wrap64 ((S.acts.length : Int) + 1) = (S.acts.length : Int) + 1 := w64r (by omega) (by omega)
                    have HW8 := Aside0.mk (show Below w7.heap.size w7 (w7.drewN n) from pw_below_drewN (Below.refl _ _) n)
                    have hn2 : S2.acts.length ≤ 1000000 := by have := HSTP.out.1.acts; omega
                    have HAC := Aside0.mk (show (pe = 0 → (S2.acts.length : Int) = (S.acts.length : Int) + 1) ∧ (pe ≠ 0 → (S2.acts.length : Int) ≠ (S.acts.length : Int) + 1) from by
                      rcases HSTP.out.2 with ⟨h1, h2⟩ | ⟨h1, h2, _⟩
                      · exact ⟨fun h => absurd h h1, fun _ => by rw [h2]; omega⟩
                      · exact ⟨fun _ => by omega, fun h => absurd h1 h⟩)
                    by_cases hpe : pe = 0
                    · have de : (pe == (0 : Int)) = true := beq_iff_eq.mpr hpe
                      have dl : ((S2.acts.length : Int) == (S.acts.length : Int) + 1) = true := beq_iff_eq.mpr (HAC.out.1 hpe)
                      clear hpe
                      go_wp2_with (first | (go_at_call 16; refine (acts_calls p S2 G _ (HG7.out.below HW8.out) hn2).mono ?_; rintro e_ w9 ⟨v, rfl, hr_, hb_⟩; obtain ⟨Aa2, ca2, rfl⟩ := Kd.R_slice hr_; have HB9 := Aside0.mk (below_then HW8.out HW8.out.size hb_); clear hr_ hb_))
                      go_roundw
                      case rel => exact ⟨i + 1, S2, by omega, by go_num, ⟨HL7.out.below HB9.out⟩, ⟨HSTP.out.1⟩⟩
                      case measure => simp [intOf]; omega
                    · have de : (pe == (0 : Int)) = false := beq_eq_false_iff_ne.mpr hpe
                      have dl : ((S2.acts.length : Int) == (S.acts.length : Int) + 1) = false := beq_eq_false_iff_ne.mpr (HAC.out.2 hpe)
                      clear hpe
                      go_wp2_with (first | (go_at_call 16; refine (acts_calls p S2 G _ (HG7.out.below HW8.out) hn2).mono ?_; rintro e_ w9 ⟨v, rfl, hr_, hb_⟩; obtain ⟨Aa2, ca2, rfl⟩ := Kd.R_slice hr_; have HB9 := Aside0.mk (below_then HW8.out HW8.out.size hb_); clear hr_ hb_))
                      go_roundw
                      case rel => exact ⟨i + 1, S2, by omega, by go_num, ⟨HL7.out.below HB9.out⟩, ⟨HSTP.out.1⟩⟩
                      case measure => simp [intOf]; omega
              · have hd : (o.f0 == (1 : Int)) = false := beq_eq_false_iff_ne.mpr hk1
                have HAT := Aside0.mk (show ∀ x, x ≠ o.f1 → pe = 0 → stOf S2 x = stOf S x from fun x hx he => by
                  rcases HSTP.out.2 with ⟨h1, _⟩ | ⟨_, _, h3⟩
                  · exact absurd he h1
                  · exact h3 x (by rw [if_neg hk1]; exact hx))
                clear hk1
                go_wp2
                go_loopw [14, 76, 77, 78, 79, 80, 81, 82, 83, 84, 85, 86, 87, 88, 89, 90, 91, 92, 93, 94, 95, 96] (fun v14 _ _ _ _ _ _ _ _ _ _ _ _ _ _ _ _ _ _ _ _ _ wr => ∃ x : Nat, x ≤ 42 ∧ v14 = .int .i64 x ∧ Drawn0 w7 wr) (fun v14 _ _ _ _ _ _ _ _ _ _ _ _ _ _ _ _ _ _ _ _ _ _ => 42 - (intOf v14).toNat)
                case atStart => exact ⟨0, Nat.zero_le _, rfl, by repeat (first | exact Drawn0.refl _ | apply Drawn0.step)⟩
                case round =>
                  clear q0 q1
                  obtain ⟨x, hx, rfl, ⟨n, rfl⟩⟩ := hrel
                  by_cases hx41 : x ≤ 41
                  · have d3 : decide ((x : Int) ≤ 41) = true := decide_eq_true (by omega)
                    have d4 : decide (x ≤ 41) = true := decide_eq_true hx41
                    obtain ⟨s2, hs2⟩ : ∃ s2, stOf S2 (x : Int) = s2 := ⟨_, rfl⟩
                    have HS2 := Aside0.mk hs2
                    obtain ⟨ab, e, qb⟩ := Kd.at_int (Kd.C_drewN (Kd.R_reads' HRW7.out).2.2 n) (x : Int) (by omega) (by rw [befs_len]; omega)
                    subst e
                    rw [Int.toNat_natCast, befs_rd S (by omega)] at qb
                    have qb0 : w7.cell? (ab.add x) = some (.int .i64 (stOf S (x : Int))) := qb
                    have p2 : (0 : Int) ≤ (x : Int) := by omega
                    have p3 : (x : Int) < ((befs S 42).length : Int) := by rw [befs_len]; omega
                    have d5 : decide (x < (befs S 42).length) = true := decide_eq_true (by rw [befs_len]; omega)
                    by_cases hse : s2 = stOf S (x : Int)
                    · have dn : (s2 != stOf S (x : Int)) = false := bne_eq_false_iff_eq.mpr hse
                      clear hs2 hse
                      go_wp2
                      go_quiet (first | (go_at_call 15; refine (state_live (HL7.out.below (by repeat (first | exact Below.refl _ _ | apply pw_below_drewN | apply below_drew))) (x : Int) (wf_small (by omega)) HS2.out).mono ?_; rintro e_ w_ ⟨rfl, he_⟩; first | exact ⟨rfl, _, he_⟩ | (obtain rfl := he_.symm)))
                      go_wp2_with (first | (go_at_call 15; refine (state_live (HL7.out.below (by repeat (first | exact Below.refl _ _ | apply pw_below_drewN | apply below_drew))) (x : Int) (wf_small (by omega)) HS2.out).mono ?_; rintro e_ w_ ⟨rfl, he_⟩; first | exact ⟨rfl, _, he_⟩ | (obtain rfl := he_.symm)))
                      go_roundw
                      case rel => exact ⟨x + 1, by omega, by go_num, by repeat (first | exact Drawn0.refl _ | apply Drawn0.step)⟩
                      case measure => simp [intOf]; omega
                    · have dn : (s2 != stOf S (x : Int)) = true := bne_iff_ne.mpr hse
                      have hpe : pe = 0 := by
                        rcases HSTP.out.2 with ⟨_, h2⟩ | ⟨h1, _⟩
                        · rw [h2] at hs2; exact absurd hs2.symm hse
                        · exact h1
                      have hxa : (x : Int) = o.f1 := by
                        by_cases hxa : (x : Int) = o.f1
                        · exact hxa
                        · exact absurd (hs2.symm.trans (HAT.out _ hxa hpe)) hse
                      have de : (pe != (0 : Int)) = false := by rw [hpe]; rfl
                      have da : ((x : Int) != o.f1) = false := bne_eq_false_iff_eq.mpr hxa
                      clear hs2 hse hpe hxa
                      go_wp2
                      go_quiet (first | (go_at_call 15; refine (state_live (HL7.out.below (by repeat (first | exact Below.refl _ _ | apply pw_below_drewN | apply below_drew))) (x : Int) (wf_small (by omega)) HS2.out).mono ?_; rintro e_ w_ ⟨rfl, he_⟩; first | exact ⟨rfl, _, he_⟩ | (obtain rfl := he_.symm)))
                      go_wp2_with (first | (go_at_call 15; refine (state_live (HL7.out.below (by repeat (first | exact Below.refl _ _ | apply pw_below_drewN | apply below_drew))) (x : Int) (wf_small (by omega)) HS2.out).mono ?_; rintro e_ w_ ⟨rfl, he_⟩; first | exact ⟨rfl, _, he_⟩ | (obtain rfl := he_.symm)))
                      go_roundw
                      case rel => exact ⟨x + 1, by omega, by go_num, by repeat (first | exact Drawn0.refl _ | apply Drawn0.step)⟩
                      case measure => simp [intOf]; omega
                  · obtain rfl : x = 42 := by omega
                    have hwn : wrap64 ((S.acts.length : Int) + 1) = (S.acts.length : Int) + 1 := w64r (by omega) (by omega)
                    have HW8 := Aside0.mk (show Below w7.heap.size w7 (w7.drewN n) from pw_below_drewN (Below.refl _ _) n)
                    have hn2 : S2.acts.length ≤ 1000000 := by have := HSTP.out.1.acts; omega
                    have HAC := Aside0.mk (show (pe = 0 → (S2.acts.length : Int) = (S.acts.length : Int) + 1) ∧ (pe ≠ 0 → (S2.acts.length : Int) ≠ (S.acts.length : Int) + 1) from by
                      rcases HSTP.out.2 with ⟨h1, h2⟩ | ⟨h1, h2, _⟩
                      · exact ⟨fun h => absurd h h1, fun _ => by rw [h2]; omega⟩
                      · exact ⟨fun _ => by omega, fun h => absurd h1 h⟩)
                    by_cases hpe : pe = 0
                    · have de : (pe == (0 : Int)) = true := beq_iff_eq.mpr hpe
                      have dl : ((S2.acts.length : Int) == (S.acts.length : Int) + 1) = true := beq_iff_eq.mpr (HAC.out.1 hpe)
                      clear hpe
                      go_wp2_with (first | (go_at_call 16; refine (acts_calls p S2 G _ (HG7.out.below HW8.out) hn2).mono ?_; rintro e_ w9 ⟨v, rfl, hr_, hb_⟩; obtain ⟨Aa2, ca2, rfl⟩ := Kd.R_slice hr_; have HB9 := Aside0.mk (below_then HW8.out HW8.out.size hb_); clear hr_ hb_))
                      go_roundw
                      case rel => exact ⟨i + 1, S2, by omega, by go_num, ⟨HL7.out.below HB9.out⟩, ⟨HSTP.out.1⟩⟩
                      case measure => simp [intOf]; omega
                    · have de : (pe == (0 : Int)) = false := beq_eq_false_iff_ne.mpr hpe
                      have dl : ((S2.acts.length : Int) == (S.acts.length : Int) + 1) = false := beq_eq_false_iff_ne.mpr (HAC.out.2 hpe)
                      clear hpe
                      go_wp2_with (first | (go_at_call 16; refine (acts_calls p S2 G _ (HG7.out.below HW8.out) hn2).mono ?_; rintro e_ w9 ⟨v, rfl, hr_, hb_⟩; obtain ⟨Aa2, ca2, rfl⟩ := Kd.R_slice hr_; have HB9 := Aside0.mk (below_then HW8.out HW8.out.size hb_); clear hr_ hb_))
                      go_roundw
                      case rel => exact ⟨i + 1, S2, by omega, by go_num, ⟨HL7.out.below HB9.out⟩, ⟨HSTP.out.1⟩⟩
                      case measure => simp [intOf]; omega
        · obtain rfl : i = ops.length := by omega
          have d1 : decide ((ops.length : Int) < (ops.length : Int)) = false := decide_eq_false (by omega)
          go_wp2_with (first | (go_at_call 10; refine (lives_calls _).mono ?_; rintro e w4 ⟨rfl, hb_⟩; have HB4 := Aside0.mk hb_; clear hb_))
          go_ret
          exact ⟨rfl, below_then HL.out.low HL.out.low.size HB4.out⟩
  · have HNE := Aside0.mk hne
    have hn1 : (err != 0) = true := bne_iff_ne.mpr hne
    clear hne
    cases b
    · go_upto_region 2 with (first | (go_at_call 11; refine (new_bad (Kd.C_below H0.out HB1.out) hc0 (Kd.C_below H1.out HB1.out) HR.out HE.out HNE.out).mono ?_; rintro e w2 ⟨rfl, hb_⟩; have HB12 := Aside0.mk hb_; clear hb_ b0 b1))
      have HB2 := Aside0.mk (below_then HB1.out HB1.out.size HB12.out)
      have BK2 := blk_below HBK.out HB12.out
      have b0 := (blk_cell BK2 0).trans rfl
      have b1 := (blk_cell BK2 1).trans rfl
      clear BK2
      go_wp2_with (first | (go_at_call 9; refine (accountinglaw15_light.calls kl A0 c0 steps A1 c1 apprs A2 c2 ops false _ (Kd.C_below H0.out HB2.out) hc0 (Kd.C_below H1.out HB2.out) hc1 (Kd.C_below H2.out HB2.out) hc2 HLT.out).mono ?_; rintro e w3 ⟨rfl, hb_⟩; have HB3 := Aside0.mk (below_then HB2.out HB2.out.size hb_); clear hb_ b0 b1) | (go_at_call 10; refine (lives_calls _).mono ?_; rintro e w4 ⟨rfl, hb_⟩; have HB4 := Aside0.mk hb_; clear hb_))
      go_ret
      exact ⟨rfl, below_then HB3.out HB3.out.size HB4.out⟩
    · go_upto_region 2 with (first | (go_at_call 11; refine (new_bad (Kd.C_below H0.out HB1.out) hc0 (Kd.C_below H1.out HB1.out) HR.out HE.out HNE.out).mono ?_; rintro e w2 ⟨rfl, hb_⟩; have HB12 := Aside0.mk hb_; clear hb_ b0 b1))
      have HB2 := Aside0.mk (below_then HB1.out HB1.out.size HB12.out)
      have BK2 := blk_below HBK.out HB12.out
      have b0 := (blk_cell BK2 0).trans rfl
      have b1 := (blk_cell BK2 1).trans rfl
      clear BK2
      go_wp2_with (first | (go_at_call 9; refine (accountinglaw15_light.calls kl A0 c0 steps A1 c1 apprs A2 c2 ops true _ (Kd.C_below H0.out HB2.out) hc0 (Kd.C_below H1.out HB2.out) hc1 (Kd.C_below H2.out HB2.out) hc2 HLT.out).mono ?_; rintro e w3 ⟨rfl, hb_⟩; have HB3 := Aside0.mk (below_then HB2.out HB2.out.size hb_); clear hb_ b0 b1) | (go_at_call 10; refine (lives_calls _).mono ?_; rintro e w4 ⟨rfl, hb_⟩; have HB4 := Aside0.mk hb_; clear hb_))
      go_ret
      exact ⟨rfl, below_then HB3.out HB3.out.size HB4.out⟩
/-- The law's value: true where the lists are no longer than any Go slice and each number is an int. -/
def accountinglaw15_FlowApart.f (l0_0 : List S60) (l0_1 : List ByteArray) (l1 : List S46) : Option Bool := if steps_ok l0_0 l1 then some true else none
theorem accountinglaw15_FlowApart.calls (A0_0 : Option Addr) (c0_0 : Nat) (l0_0 : List S60) (A0_1 : Option Addr) (c0_1 : Nat) (l0_1 : List ByteArray) (A1 : Option Addr) (c1 : Nat) (l1 : List S46) (r : Bool) (w : World) (hr0_0 : Kd.C k60 w A0_0 l0_0.length l0_0) (hc0_0 : l0_0.length ≤ c0_0) (hr0_1 : Kd.C Kd.string w A0_1 l0_1.length l0_1) (hc0_1 : l0_1.length ≤ c0_1) (hr1 : Kd.C k46 w A1 l1.length l1) (hc1 : l1.length ≤ c1) (h : accountinglaw15_FlowApart.f l0_0 l0_1 l1 = some r) :
    Calls Try.prog 4 #[.agg #[.slice A0_0 l0_0.length c0_0, .slice A0_1 l0_1.length c0_1], .slice A1 l1.length c1] w fun e w' => e = .returned (.bool r) ∧ Below w.heap.size w w' := by
  unfold accountinglaw15_FlowApart.f at h
  split at h
  · rename_i hok
    obtain rfl := Option.some.inj h
    exact flowApart_calls A0_0 c0_0 l0_0 A0_1 c0_1 l0_1 A1 c1 l1 w hr0_0 hc0_0 hr0_1 hc0_1 hr1 hc1 hok.1 hok.2
  · cases h
end Go.Proofs.Ytbbhichndfbooaa.P
namespace Go.Proofs.Ytbbhichndfbooaa.P
open Go.RowKit Go.Proofs.YtbbhichndfbooaaW.PrintWords Go.Proofs.YtbbhichndfbooaaW.PrintLast Go.Proofs.YtbbhichndfbooaaW.PrintMore
attribute [local go_sem] max2_int min2_int max_two min_two max_three min_three max_four min_four   -- for this text's walks alone
set_option linter.unusedVariables false
set_option linter.unusedSimpArgs false
theorem eqA55 (d : Nat) (w : World) (x0 y0 : Int) (x1 y1 : Int) (x2 y2 : ByteArray) :
    (Op.equalIn (d + 2) 55 (.agg #[.int .i64 x0, .int .i64 x1, .string x2]) (.agg #[.int .i64 y0, .int .i64 y1, .string y2])).run Try.prog w = .ok (x0 == y0 && (x1 == y1 && (x2.toList == y2.toList))) w := by
  refine eqA_of Try.underlying55 (by kernel_rfl) ?_
  refine eqf_cons (by rfl) (by go_simp; rfl) (by go_simp; rfl) (by go_simp) ?_
  refine eqf_cons (by rfl) (by go_simp; rfl) (by go_simp; rfl) (by go_simp) ?_
  exact eqf_last (by rfl) (by go_simp; rfl) (by go_simp; rfl) (by go_simp)
attribute [local go_sem high] eqA55
/-! ### accountingref15_SameActs: function 27 -/
def accountingref15_SameActs.l0 : Nat → List (S55) → List (S55) → Int → Option (Bool)
  | 0, _, _, _ => none
  | k + 1, x0, x1, x5 => if x5 < (x0.length : Int) then (if 0 ≤ x5 then (if x5 < (x1.length : Int) then (if (!(((rd_T55 x0 x5).f0) == ((rd_T55 x1 x5).f0)) || (!(((rd_T55 x0 x5).f1) == ((rd_T55 x1 x5).f1)) || (!((((rd_T55 x0 x5).f2).toList) == (((rd_T55 x1 x5).f2).toList))))) = true then (some false) else (accountingref15_SameActs.l0 k x0 x1 (wrap64 (x5 + 1)))) else (none)) else (none)) else (some true)
def accountingref15_SameActs.f (k : Nat) (l0 : List (S55)) (l1 : List (S55)) : Option (Bool) := if (l0.length : Int) = (l1.length : Int) then (accountingref15_SameActs.l0 k l0 l1 0) else (some false)
theorem accountingref15_SameActs.mono_l : ∀ k, (∀ y0 y1 y2, LeO (accountingref15_SameActs.l0 k y0 y1 y2) (accountingref15_SameActs.l0 (k + 1) y0 y1 y2))
  | 0 => fun _ _ _ r h => by simp [accountingref15_SameActs.l0] at h
  | k + 1 => by
    have ih0 := accountingref15_SameActs.mono_l k
    · intro y0 y1 y2
      unfold accountingref15_SameActs.l0
      repeat' first
      | (with_reducible exact ih0 _ _ _)
      | (with_reducible exact LeO.refl _)
      | (with_reducible exact LeO.none _)
      | (with_reducible refine LeO.ite ?_ ?_)
      | (with_reducible refine LeO.bind ?_ (fun _ => ?_))
      | exact ih0 _ _ _
      | exact LeO.none _
      | refine LeO.ite ?_ ?_
      | refine LeO.bind ?_ (fun _ => ?_)
theorem accountingref15_SameActs.mono : ∀ a0 a1 k, LeO (accountingref15_SameActs.f k a0 a1) (accountingref15_SameActs.f (k + 1) a0 a1) := by
  intro a0 a1 k
  have ih0 := accountingref15_SameActs.mono_l k
  unfold accountingref15_SameActs.f
  repeat' first
      | (with_reducible exact ih0 _ _ _)
      | (with_reducible exact LeO.refl _)
      | (with_reducible exact LeO.none _)
      | (with_reducible refine LeO.ite ?_ ?_)
      | (with_reducible refine LeO.bind ?_ (fun _ => ?_))
      | exact ih0 _ _ _
      | exact LeO.none _
      | refine LeO.ite ?_ ?_
      | refine LeO.bind ?_ (fun _ => ?_)
set_option maxHeartbeats 8000000 in
set_option maxRecDepth 100000 in
theorem accountingref15_SameActs.calls (k : Nat) (A0 : Option Addr) (c0 : Nat) (l0 : List (S55)) (A1 : Option Addr) (c1 : Nat) (l1 : List (S55)) (r : Bool) (w : World) (hr0 : Kd.C k55 w A0 l0.length l0) (hc0 : l0.length ≤ c0) (hr1 : Kd.C k55 w A1 l1.length l1) (hc1 : l1.length ≤ c1) (h : accountingref15_SameActs.f k l0 l1 = some r) :
    Calls Try.prog 27 #[.slice A0 l0.length c0, .slice A1 l1.length c1] w fun e w' => e = .returned (.bool r) ∧ Drawn0 w w' := by
  have hu55 := Try.underlying55
  have HR0 := Aside0.mk hr0
  have HC0 := Aside0.mk hc0
  clear hr0 hc0
  have HR1 := Aside0.mk hr1
  have HC1 := Aside0.mk hc1
  clear hr1 hc1
  have H : (if (l0.length : Int) = (l1.length : Int) then (accountingref15_SameActs.l0 k l0 l1 0) else (some false)) = some r := h
  clear h
  by_cases c3 : (l0.length : Int) = (l1.length : Int)
  · rw [if_pos c3] at H
    have c3b0 : ((l0.length : Int) == (l1.length : Int)) = true := beq_iff_eq.mpr c3
    have c3b1 : ((l0.length : Int) != (l1.length : Int)) = false := bne_eq_false_iff_eq.mpr c3
    have c3b2 : (l0.length == l1.length) = true := by first | simpa using c3 | (simp at c3 ⊢; omega)
    clear c3
    have H' := Aside0.mk H
    clear H
    go_enter Try.func27, Try.ntmps27
    go_wp2
    repeat (go_quiet (fail); try go_wp2)
    go_loopg [5] k (fun kq v5 w' => ∃ (x5_1 : Int), v5 = .int .i64 x5_1 ∧ Aside0 (accountingref15_SameActs.l0 kq l0 l1 x5_1 = some r) ∧ Aside0 (kq ≤ k) ∧ Drawn0 w w')
    case atStart => exact ⟨(0), (by first | rfl | (simp; done) | (simp [*]; done)), H', ⟨Nat.le_refl _⟩, by repeat (first | exact Drawn0.refl _ | apply Drawn0.step)⟩
    case round =>
      clear H'
      try clear c1
      try clear c2
      try clear p2
      try clear c3
      try clear c3b0
      try clear c3b1
      try clear c3b2
      obtain ⟨x5_1, rfl, HA, HK1, ⟨m1, rfl⟩⟩ := hrel
      cases gk with
      | zero => exact absurd HA.out (by simp [accountingref15_SameActs.l0])
      | succ k1 =>
        have H := HA.out
        clear HA
        simp only [accountingref15_SameActs.l0] at H
        by_cases c4 : x5_1 < (l0.length : Int)
        · rw [if_pos c4] at H
          have c4b0 : decide (x5_1 < (l0.length : Int)) = true := decide_eq_true c4
          clear c4
          by_cases c5 : 0 ≤ x5_1
          · rw [if_pos c5] at H
            have c5b0 : decide (0 ≤ x5_1) = true := decide_eq_true c5
            clear c5
            by_cases c6 : x5_1 < (l1.length : Int)
            · rw [if_pos c6] at H
              have c6b0 : decide (x5_1 < (l1.length : Int)) = true := decide_eq_true c6
              clear c6
              by_cases c7 : (!(((rd_T55 l0 x5_1).f0) == ((rd_T55 l1 x5_1).f0)) || (!(((rd_T55 l0 x5_1).f1) == ((rd_T55 l1 x5_1).f1)) || (!((((rd_T55 l0 x5_1).f2).toList) == (((rd_T55 l1 x5_1).f2).toList))))) = true
              · rw [if_pos c7] at H
                have c7b0 : (!(((rd_T55 l0 x5_1).f0) == ((rd_T55 l1 x5_1).f0)) || (!(((rd_T55 l0 x5_1).f1) == ((rd_T55 l1 x5_1).f1)) || (!((((rd_T55 l0 x5_1).f2).toList) == (((rd_T55 l1 x5_1).f2).toList))))) = true := c7
                clear c7
                obtain rfl := Option.some.inj H
                have p123 : 0 ≤ (x5_1 : Int) := of_decide_eq_true (by first | (with_reducible assumption) | assumption)
                have q123 : x5_1 < (l0.length : Int) := of_decide_eq_true (by first | (with_reducible assumption) | assumption)
                obtain ⟨ad123, e123, hx123_0, hx123_1, hx123_2⟩ := at_T55 HR0.out x5_1 p123 q123
                cases e123
                replace p123 := eq_true p123
                replace q123 := eq_true q123
                have p124 : 0 ≤ (x5_1 : Int) := of_decide_eq_true (by first | (with_reducible assumption) | assumption)
                have q124 : x5_1 < (l1.length : Int) := of_decide_eq_true (by first | (with_reducible assumption) | assumption)
                obtain ⟨ad124, e124, hx124_0, hx124_1, hx124_2⟩ := at_T55 HR1.out x5_1 p124 q124
                cases e124
                replace p124 := eq_true p124
                replace q124 := eq_true q124
                go_wp2
                repeat (go_quiet (fail); try go_wp2)
                go_ret
                exact ⟨by first | rfl | (simp; done) | (simp [*]; done), by repeat (first | exact Drawn0.refl _ | apply Drawn0.step)⟩
              · rw [if_neg c7] at H
                have c7b0 : (!(((rd_T55 l0 x5_1).f0) == ((rd_T55 l1 x5_1).f0)) || (!(((rd_T55 l0 x5_1).f1) == ((rd_T55 l1 x5_1).f1)) || (!((((rd_T55 l0 x5_1).f2).toList) == (((rd_T55 l1 x5_1).f2).toList))))) = false := by simpa using c7
                clear c7
                have H' := Aside0.mk H
                clear H
                have p123 : 0 ≤ (x5_1 : Int) := of_decide_eq_true (by first | (with_reducible assumption) | assumption)
                have q123 : x5_1 < (l0.length : Int) := of_decide_eq_true (by first | (with_reducible assumption) | assumption)
                obtain ⟨ad123, e123, hx123_0, hx123_1, hx123_2⟩ := at_T55 HR0.out x5_1 p123 q123
                cases e123
                replace p123 := eq_true p123
                replace q123 := eq_true q123
                have p124 : 0 ≤ (x5_1 : Int) := of_decide_eq_true (by first | (with_reducible assumption) | assumption)
                have q124 : x5_1 < (l1.length : Int) := of_decide_eq_true (by first | (with_reducible assumption) | assumption)
                obtain ⟨ad124, e124, hx124_0, hx124_1, hx124_2⟩ := at_T55 HR1.out x5_1 p124 q124
                cases e124
                replace p124 := eq_true p124
                replace q124 := eq_true q124
                go_wp2
                repeat (go_quiet (fail); try go_wp2)
                go_roundg k1
                case measure => have := HK1.out; omega
                case rel => exact ⟨(wrap64 (x5_1 + 1)), (by first | rfl | (simp; done) | (simp [*]; done)), H', ⟨by have := HK1.out; omega⟩, by repeat (first | exact Drawn0.refl _ | apply Drawn0.step)⟩
            · rw [if_neg c6] at H
              exact absurd H (by simp)
          · rw [if_neg c5] at H
            exact absurd H (by simp)
        · rw [if_neg c4] at H
          have c4b0 : decide (x5_1 < (l0.length : Int)) = false := decide_eq_false c4
          clear c4
          obtain rfl := Option.some.inj H
          go_wp2
          repeat (go_quiet (fail); try go_wp2)
          go_ret
          exact ⟨by first | rfl | (simp; done) | (simp [*]; done), by repeat (first | exact Drawn0.refl _ | apply Drawn0.step)⟩
  · rw [if_neg c3] at H
    have c3b0 : ((l0.length : Int) == (l1.length : Int)) = false := beq_eq_false_iff_ne.mpr c3
    have c3b1 : ((l0.length : Int) != (l1.length : Int)) = true := bne_iff_ne.mpr c3
    have c3b2 : (l0.length == l1.length) = false := by first | simpa using c3 | (simp at c3 ⊢; omega)
    obtain rfl := Option.some.inj H
    go_enter Try.func27, Try.ntmps27
    go_wp2
    repeat (go_quiet (fail); try go_wp2)
    go_ret
    exact ⟨by first | rfl | (simp; done) | (simp [*]; done), by repeat (first | exact Drawn0.refl _ | apply Drawn0.step)⟩
end Go.Proofs.Ytbbhichndfbooaa.P
namespace Go.Proofs.Ytbbhichndfbooaa.P
open Go.RowKit Go.Proofs.YtbbhichndfbooaaW.PrintWords Go.Proofs.YtbbhichndfbooaaW.PrintLast Go.Proofs.YtbbhichndfbooaaW.PrintMore Go.Maps Go.ChangeShapes Go.WideShapes Go.WideMaps
set_option linter.unusedVariables false
set_option linter.unusedSimpArgs false
theorem texts_self (l : List ByteArray) (hl : l.length ≤ 1000000) : ∃ k, accountingref15_SameTexts.f k l l = some true := by
  have key : ∀ (n i : Nat), l.length - i = n → i ≤ l.length → Ev (fun k => accountingref15_SameTexts.l0 k l l (i : Int)) true := by
    intro n
    induction n with
    | zero =>
      intro i hn hi
      refine Ev.step (fun k => accountingref15_SameTexts.l0.eq_2 _ _ _ k) ?_
      simp only [if_neg (show ¬ ((i : Int) < (l.length : Int)) by omega)]
      exact Ev.now _
    | succ n ih =>
      intro i hn hi
      have hw : wrap64 ((i : Int) + 1) = ((i + 1 : Nat) : Int) := by rw [w64r (by omega) (by omega)]; omega
      refine Ev.step (fun k => accountingref15_SameTexts.l0.eq_2 _ _ _ k) ?_
      simp only [if_pos (show ((i : Int) < (l.length : Int)) by omega), if_pos (show (0 : Int) ≤ (i : Int) by omega), hw, if_true]
      exact ih (i + 1) (by omega) (by omega)
  obtain ⟨k, hk⟩ := (key _ 0 rfl (Nat.zero_le _)).rounds
  exact ⟨k, by unfold accountingref15_SameTexts.f; rw [if_pos rfl]; exact hk⟩
theorem acts_self (l : List S55) (hl : l.length ≤ 1000000) : ∃ k, accountingref15_SameActs.f k l l = some true := by
  have key : ∀ (n i : Nat), l.length - i = n → i ≤ l.length → Ev (fun k => accountingref15_SameActs.l0 k l l (i : Int)) true := by
    intro n
    induction n with
    | zero =>
      intro i hn hi
      refine Ev.step (fun k => accountingref15_SameActs.l0.eq_2 _ _ _ k) ?_
      simp only [if_neg (show ¬ ((i : Int) < (l.length : Int)) by omega)]
      exact Ev.now _
    | succ n ih =>
      intro i hn hi
      have hw : wrap64 ((i : Int) + 1) = ((i + 1 : Nat) : Int) := by rw [w64r (by omega) (by omega)]; omega
      refine Ev.step (fun k => accountingref15_SameActs.l0.eq_2 _ _ _ k) ?_
      simp only [if_pos (show ((i : Int) < (l.length : Int)) by omega), if_pos (show (0 : Int) ≤ (i : Int) by omega), hw, beq_self_eq_true, Bool.not_true, Bool.or_false, Bool.false_eq_true, if_false]
      exact ih (i + 1) (by omega) (by omega)
  obtain ⟨k, hk⟩ := (key _ 0 rfl (Nat.zero_le _)).rounds
  exact ⟨k, by unfold accountingref15_SameActs.f; rw [if_pos rfl]; exact hk⟩
set_option maxHeartbeats 8000000 in
set_option maxRecDepth 100000 in
theorem same_calls (p q : Nat) (S : FlowS) (F G : Nat → Prop) (w : World) (hF : Flw w F p S) (hG : Rfl w G q S) (hb : Bnd S 1000) (hd : S.docs.length ≤ 900) :
    Calls Try.prog 22 #[.pointer (some ⟨p, 0, none⟩), .pointer (some ⟨q, 0, none⟩)] w fun e w' => e = .returned (.bool true) ∧ Below w.heap.size w w' := by
  have HF := Aside0.mk hF
  have HG := Aside0.mk hG
  have HBD := Aside0.mk hb
  have HDL := Aside0.mk hd
  obtain ⟨L, hL⟩ := hG
  obtain ⟨A, c, hv⟩ := Kd.R_slice hL.rowd
  have BK := hL.blk
  rw [hv, hL.len] at BK
  have HBK := Aside0.mk BK
  clear hF hb hd BK hv hL
  obtain ⟨M, hM⟩ : ∃ M, S.docs.length + 2 = M := ⟨_, rfl⟩
  have HM := Aside0.mk hM
  clear hM
  go_enter Try.func22, Try.ntmps22
  go_wp2
  go_loopw [5, 6, 7, 8, 9, 10, 11, 12, 13, 14, 15, 16, 17, 18, 19, 20, 21, 22, 23, 24, 25, 26, 27, 28, 29, 30, 31, 32, 33, 34, 35, 36, 37, 38, 39, 40, 41] (fun v5 _ _ _ _ _ _ _ _ _ _ _ _ _ _ _ _ _ _ _ _ _ _ _ _ _ _ _ _ _ _ _ _ _ _ _ _ wr => ∃ i : Nat, i ≤ M ∧ v5 = .int .i64 i ∧ Aside0 (Below w.heap.size w wr)) (fun v5 _ _ _ _ _ _ _ _ _ _ _ _ _ _ _ _ _ _ _ _ _ _ _ _ _ _ _ _ _ _ _ _ _ _ _ _ _ => M - (intOf v5).toNat)
  case atStart => exact ⟨0, Nat.zero_le _, rfl, ⟨Below.refl _ _⟩⟩
  case round =>
    obtain ⟨k, hk, rfl, HB⟩ := hrel
    rename World => wo
    have hk : k ≤ S.docs.length + 2 := by rw [HM.out]; exact hk
    have HBN := Aside0.mk (blk_below HBK.out HB.out)
    have c2 := (blk_cell HBN.out 2).trans rfl
    by_cases hlt : k ≤ S.docs.length + 1
    · have d1 : decide ((k : Int) ≤ (S.docs.length : Int) + 1) = true := decide_eq_true (by omega)
      have d2 : decide (k ≤ S.docs.length + 1) = true := decide_eq_true hlt
      have d3 : decide ((k : Int) ≤ ((S.docs.length + 1 : Nat) : Int)) = true := decide_eq_true (by omega)
      obtain ⟨st, hst⟩ : ∃ st, stOf S (k : Int) = st := ⟨_, rfl⟩
      obtain ⟨au, hau⟩ : ∃ au, auOf S (k : Int) = au := ⟨_, rfl⟩
      obtain ⟨ap, hap⟩ : ∃ ap, apOf S (k : Int) = ap := ⟨_, rfl⟩
      have hapl : ap.length ≤ 1000000 := by
        rw [← hap]
        unfold apOf
        cases hd : docAt S (k : Int) with
        | none => exact Nat.zero_le _
        | some D =>
          have := HBD.out.docs D (docAt_mem hd)
          show D.ap.length ≤ _
          omega
      have HST := Aside0.mk hst
      have HAU := Aside0.mk hau
      have HAP := Aside0.mk hap
      have HAPL := Aside0.mk hapl
      obtain ⟨kt, hkt⟩ := texts_self ap hapl
      have HKT := Aside0.mk hkt
      have HWK := Aside0.mk (wf_small (show k ≤ 1000 by have := HDL.out; omega))
      clear hst hau hap hkt hapl
      have HFB := Aside0.mk (HF.out.below HB.out)
      have HGB := Aside0.mk (HG.out.below HB.out)
      have hk1 : k + 1 ≤ M := by have := HM.out; omega
      have hk2 : M - (k + 1) < M - k := by have := HM.out; omega
      have hdl9 : S.docs.length ≤ 900 := HDL.out
      go_wp2_with (first | (go_at_call 15; (with_reducible refine (state_calls p S F (k : Int) HWK.out _ HFB.out).mono ?_); rw [HST.out]; rintro e_ w_ ⟨rfl, he_⟩; obtain rfl := he_.symm; clear c2) | (go_at_call 21; (with_reducible refine (rstate_calls q S G (k : Int) HWK.out _ HGB.out).mono ?_); rw [HST.out]; rintro e_ w1 ⟨rfl, hb_⟩; have HB1 := Aside0.mk hb_; have HFB1 := Aside0.mk (HFB.out.below hb_); have HGB1 := Aside0.mk (HGB.out.below hb_); clear hb_) | (go_at_call 25; (with_reducible refine (author_calls p S F (k : Int) HWK.out _ HFB1.out).mono ?_); rw [HAU.out]; rintro e_ w_ ⟨rfl, he_⟩; obtain rfl := he_.symm) | (go_at_call 44; (with_reducible refine (rauthor_calls q S G (k : Int) HWK.out _ HGB1.out).mono ?_); rw [HAU.out]; rintro e_ w2 ⟨rfl, hb_⟩; have HB2 := Aside0.mk hb_; have HFB2 := Aside0.mk (HFB1.out.below hb_); have HGB2 := Aside0.mk (HGB1.out.below hb_); clear hb_) | (go_at_call 23; (with_reducible refine (approvals_calls p S F (k : Int) HWK.out _ HFB2.out (by rw [HAP.out]; exact HAPL.out)).mono ?_); rw [HAP.out]; rintro e_ w3 ⟨v, rfl, hr_, hb_⟩; obtain ⟨A8, c8, rfl⟩ := Kd.R_slice hr_; have HB3 := Aside0.mk hb_; have HGB3 := Aside0.mk (HGB2.out.below hb_); have HR8 := Aside0.mk (Kd.R_reads' hr_); clear hr_ hb_) | (go_at_call 45; (with_reducible refine (rapprovals_calls q S G (k : Int) HWK.out _ HGB3.out (by rw [HAP.out]; exact HAPL.out)).mono ?_); rw [HAP.out]; rintro e_ w4 ⟨v, rfl, hr_, hb_⟩; obtain ⟨A9, c9, rfl⟩ := Kd.R_slice hr_; have HB4 := Aside0.mk hb_; have HR9 := Aside0.mk (Kd.R_reads' hr_); clear hr_ hb_) | (go_at_call 26; refine (accountingref15_SameTexts.calls kt A8 c8 ap A9 c9 ap true _ (Kd.C_below HR8.out.2.2 HB4.out) HR8.out.2.1 HR9.out.2.2 HR9.out.2.1 HKT.out).mono ?_; rintro e_ w5 ⟨rfl, hd_⟩; have HB5 := Aside0.mk hd_.below; clear hd_))
      go_roundw
      case rel =>
        have h1 := below_then HB.out HB.out.size HB1.out
        have h2 := below_then h1 h1.size HB2.out
        have h3 := below_then h2 h2.size HB3.out
        have h4 := below_then h3 h3.size HB4.out
        exact ⟨k + 1, hk1, by push_cast; rfl, ⟨below_then h4 h4.size HB5.out⟩⟩
      case measure =>
        simp only [intOf, Int.toNat_natCast, Int.toNat_natCast_add_one]
        exact hk2
    · obtain rfl : k = S.docs.length + 2 := by omega
      have d1 : decide (((S.docs.length + 2 : Nat) : Int) ≤ (S.docs.length : Int) + 1) = false := decide_eq_false (by omega)
      have d2 : decide ((S.docs.length : Int) + 2 ≤ (S.docs.length : Int) + 1) = false := decide_eq_false (by omega)
      obtain ⟨kt, hkt⟩ := acts_self S.acts (by have := HBD.out.acts; omega)
      have HKT := Aside0.mk hkt
      have hsa : S.acts.length ≤ 1000000 := by have := HBD.out.acts; omega
      clear hkt
      have hdl9 : S.docs.length ≤ 900 := HDL.out
      have HFB := Aside0.mk (HF.out.below HB.out)
      have HGB := Aside0.mk (HG.out.below HB.out)
      go_wp2_with (first | (go_at_call 16; refine (acts_calls p S F _ HFB.out hsa).mono ?_; rintro e_ w3 ⟨v, rfl, hr_, hb_⟩; obtain ⟨A8, c8, rfl⟩ := Kd.R_slice hr_; have HB3 := Aside0.mk hb_; have HGB3 := Aside0.mk (HGB.out.below hb_); have HR8 := Aside0.mk (Kd.R_reads' hr_); clear hr_ hb_ c2) | (go_at_call 46; refine (racts_calls q S G _ HGB3.out hsa).mono ?_; rintro e_ w4 ⟨v, rfl, hr_, hb_⟩; obtain ⟨A9, c9, rfl⟩ := Kd.R_slice hr_; have HB4 := Aside0.mk hb_; have HR9 := Aside0.mk (Kd.R_reads' hr_); clear hr_ hb_) | (go_at_call 27; refine (accountingref15_SameActs.calls kt A8 c8 S.acts A9 c9 S.acts true _ (Kd.C_below HR8.out.2.2 HB4.out) HR8.out.2.1 HR9.out.2.2 HR9.out.2.1 HKT.out).mono ?_; rintro e_ w5 ⟨rfl, hd_⟩; have HB5 := Aside0.mk hd_.below; clear hd_))
      go_ret
      have h3 := below_then HB.out HB.out.size HB3.out
      have h4 := below_then h3 h3.size HB4.out
      exact ⟨rfl, below_then h4 h4.size HB5.out⟩
section
variable {A0 A1 : Option Addr} {c0 c1 : Nat} {steps : List S60} {apprs : List ByteArray} {w : World}
theorem rnew_bad (h0 : Kd.C k60 w A0 steps.length steps) (hc0 : steps.length ≤ c0) (h1 : Kd.string.C w A1 apprs.length apprs) (hc1 : apprs.length ≤ c1) {kn : Nat} {err : Int} (hr : accountingref15_New.f kn steps apprs = some err) (hne : err ≠ 0) :
    Calls Try.prog 12 #[.slice A0 steps.length c0, .slice A1 apprs.length c1] w fun e w' => e = .returned (.tuple #[.pointer none, .int .i64 err]) ∧ Below w.heap.size w w' := by
  refine (rnew_calls kn A0 c0 steps A1 c1 apprs err w h0 hc0 h1 hc1 (fun h => absurd h hne) hr).mono ?_
  rintro e w' ⟨hb, ⟨_, rfl⟩ | ⟨h, _⟩⟩
  · exact ⟨rfl, hb⟩
  · exact absurd h hne
theorem rnew_good (h0 : Kd.C k60 w A0 steps.length steps) (hc0 : steps.length ≤ c0) (h1 : Kd.string.C w A1 apprs.length apprs) (hc1 : apprs.length ≤ c1) {kn : Nat} (hr : accountingref15_New.f kn steps apprs = some 0) (hl : steps.length ≤ 200 ∧ apprs.length ≤ 200) :
    Calls Try.prog 12 #[.slice A0 steps.length c0, .slice A1 apprs.length c1] w fun e w' => Below w.heap.size w w' ∧ ∃ q F, e = .returned (.tuple #[.pointer (some ⟨q, 0, none⟩), .int .i64 0]) ∧ Rfl w' F q ⟨steps, apprs, [], []⟩ ∧ ∀ k, F k → w.heap.size ≤ k := by
  refine (rnew_calls kn A0 c0 steps A1 c1 apprs 0 w h0 hc0 h1 hc1 (fun _ => hl) hr).mono ?_
  rintro e w' ⟨hb, ⟨h, _⟩ | ⟨_, q, F, rfl, hF, hk⟩⟩
  · exact absurd rfl h
  · exact ⟨hb, q, F, rfl, hF, hk⟩
end
set_option maxHeartbeats 16000000 in
set_option maxRecDepth 100000 in
theorem flowNew_calls (A0 : Option Addr) (c0 : Nat) (steps : List S60) (A1 : Option Addr) (c1 : Nat) (apprs : List ByteArray) (v : Int) (w : World)
    (h0 : Kd.C k60 w A0 steps.length steps) (hc0 : steps.length ≤ c0) (h1 : Kd.string.C w A1 apprs.length apprs) (hc1 : apprs.length ≤ c1) :
    Calls Try.prog 3 #[.agg #[.slice A0 steps.length c0, .slice A1 apprs.length c1], .int .i64 v] w fun e w' => e = .returned (.bool true) ∧ Below w.heap.size w w' := by
  obtain ⟨b, kl, hlt, _⟩ := light_some steps apprs []
  have H0 := Aside0.mk h0
  have H1 := Aside0.mk h1
  have HLT := Aside0.mk hlt
  have HNN := Aside0.mk (Kd.R_reads' (Kd.R_nil k46 46 w 0 (fun _ => True))).2.2
  clear h0 h1
  go_enter Try.func3, Try.ntmps3
  go_upto_region 1 with (fail)
  refine with_world (P := fun x => Code.wp _ _ _ _ x) _ ?_
  intro w1 hw1
  have BK : w1.heap[w.heap.size]? = some (.cells #[.slice A0 steps.length c0, .slice A1 apprs.length c1] 25 (0, 0)) := by rw [hw1]; exact blk_new w _
  have HB1 := Aside0.mk (show Below w.heap.size w w1 from by rw [hw1]; exact below_alloc (Below.refl _ _) _)
  obtain ⟨g, hg⟩ : ∃ g, w.heap.size = g := ⟨_, rfl⟩
  rw [hg] at BK ⊢
  clear hw1 hg
  have HBK := Aside0.mk BK
  have b0 := (blk_cell BK 0).trans rfl
  have b1 := (blk_cell BK 1).trans rfl
  clear BK
  cases b
  · clear hlt
    go_wp2_with (first | (go_at_call 9; refine (accountinglaw15_light.calls kl A0 c0 steps A1 c1 apprs none 0 [] false _ (Kd.C_below H0.out HB1.out) hc0 (Kd.C_below H1.out HB1.out) hc1 (Kd.R_reads' (Kd.R_nil k46 46 _ 0 (fun _ => True))).2.2 (Nat.le_refl _) HLT.out).mono ?_; rintro e w3 ⟨rfl, hb_⟩; have HB3 := Aside0.mk (below_then HB1.out HB1.out.size hb_); clear hb_ b0 b1) | (go_at_call 10; refine (lives_calls _).mono ?_; rintro e w4 ⟨rfl, hb_⟩; have HB4 := Aside0.mk hb_; clear hb_))
    go_ret
    exact ⟨rfl, below_then HB3.out HB3.out.size HB4.out⟩
  obtain ⟨l1, l2, _, l4⟩ := light_all hlt
  obtain ⟨rt, kr, kn, hr, hn⟩ := rnew_both steps apprs (by omega) (by omega) (fun a ha => by have := l4 a ha; omega)
  obtain ⟨err, he⟩ : ∃ err, newErr rt steps apprs = err := ⟨_, rfl⟩
  have HR := Aside0.mk hr
  have HN := Aside0.mk (he ▸ hn)
  have HE := Aside0.mk he
  clear hr hn he hlt l1 l2 l4
  go_upto_region 3 with (first | (go_at_call 9; refine (accountinglaw15_light.calls kl A0 c0 steps A1 c1 apprs none 0 [] true _ (Kd.C_below H0.out HB1.out) hc0 (Kd.C_below H1.out HB1.out) hc1 (Kd.R_reads' (Kd.R_nil k46 46 _ 0 (fun _ => True))).2.2 (Nat.le_refl _) HLT.out).mono ?_; rintro e w2 ⟨rfl, hb_⟩; have HB12 := Aside0.mk hb_; clear hb_ b0 b1))
  have HB2 := Aside0.mk (below_then HB1.out HB1.out.size HB12.out)
  have HBK2 := Aside0.mk (blk_below HBK.out HB12.out)
  clear HB12 HB1 HBK
  have b0 := (blk_cell HBK2.out 0).trans rfl
  have b1 := (blk_cell HBK2.out 1).trans rfl
  by_cases hne : err = 0
  · subst hne
    go_upto_region 4 with (first | (go_at_call 11; refine (new_good (Kd.C_below H0.out HB2.out) hc0 (Kd.C_below H1.out HB2.out) HR.out HE.out).mono ?_; rintro e w3 ⟨hb_, p, rfl, hl_⟩; have HB23 := Aside0.mk hb_; have HL3 := Aside0.mk hl_; clear hb_ hl_ b0 b1))
    have HB3 := Aside0.mk (below_then HB2.out HB2.out.size HB23.out)
    have HBK3 := Aside0.mk (blk_below HBK2.out HB23.out)
    clear HBK2
    have b0 := (blk_cell HBK3.out 0).trans rfl
    have b1 := (blk_cell HBK3.out 1).trans rfl
    have HLN := Aside0.mk (newErr_len HE.out)
    go_upto_region 7 with (first | (go_at_call 12; refine (rnew_good (Kd.C_below H0.out HB3.out) hc0 (Kd.C_below H1.out HB3.out) hc1 HN.out HLN.out).mono ?_; rintro e w4 ⟨hb_, q, F, rfl, hF, hk⟩; have HB34 := Aside0.mk hb_; have HF4 := Aside0.mk hF; clear hb_ hF hk b0 b1))
    have HB4 := Aside0.mk (below_then HB3.out HB3.out.size HB34.out)
    have HL4 := Aside0.mk (HL3.out.below HB34.out)
    obtain ⟨⟨nn, ok⟩, hnn⟩ : ∃ z, needOf steps v = z := ⟨_, rfl⟩
    have HNN2 := Aside0.mk hnn
    clear hnn
    obtain ⟨Fp, hFp, _⟩ := HL4.out.ex
    have HFp := Aside0.mk hFp
    clear hFp
    go_upto_region 8 with (first | (go_at_call 13; refine (need_is HNN2.out HFp.out).mono ?_; rintro e w5 ⟨rfl, hb_⟩; have HB45 := Aside0.mk hb_; clear hb_))
    have HB5 := Aside0.mk (below_then HB4.out HB4.out.size HB45.out)
    go_wp2_with (first | (go_at_call 14; refine (rneed_is HNN2.out (HF4.out.below HB45.out)).mono ?_; rintro e w6 ⟨rfl, he_⟩; obtain rfl := he_.symm) | (go_at_call 10; refine (lives_calls _).mono ?_; rintro e w7 ⟨rfl, hb_⟩; have HB7 := Aside0.mk hb_; clear hb_))
    go_ret
    exact ⟨by simp, below_then HB5.out HB5.out.size HB7.out⟩
  · have HNE := Aside0.mk hne
    clear hne
    go_upto_region 4 with (first | (go_at_call 11; refine (new_bad (Kd.C_below H0.out HB2.out) hc0 (Kd.C_below H1.out HB2.out) HR.out HE.out HNE.out).mono ?_; rintro e w3 ⟨rfl, hb_⟩; have HB23 := Aside0.mk hb_; clear hb_ b0 b1))
    have HB3 := Aside0.mk (below_then HB2.out HB2.out.size HB23.out)
    have HBK3 := Aside0.mk (blk_below HBK2.out HB23.out)
    clear HBK2
    have b0 := (blk_cell HBK3.out 0).trans rfl
    have b1 := (blk_cell HBK3.out 1).trans rfl
    go_wp2_with (first | (go_at_call 12; refine (rnew_bad (Kd.C_below H0.out HB3.out) hc0 (Kd.C_below H1.out HB3.out) hc1 HN.out HNE.out).mono ?_; rintro e w4 ⟨rfl, hb_⟩; have HB4 := Aside0.mk (below_then HB3.out HB3.out.size hb_); clear hb_ b0 b1) | (go_at_call 13; refine (need_nil v _).mono ?_; rintro e w5 ⟨rfl, he_⟩; obtain rfl := he_.symm) | (go_at_call 14; refine (rneed_nil v _).mono ?_; rintro e w6 ⟨rfl, he_⟩; obtain rfl := he_.symm) | (go_at_call 10; refine (lives_calls _).mono ?_; rintro e w7 ⟨rfl, hb_⟩; have HB7 := Aside0.mk hb_; clear hb_))
    go_ret
    exact ⟨by simp, below_then HB4.out HB4.out.size HB7.out⟩
def accountinglaw15_FlowNew.f (l0_0 : List S60) (l0_1 : List ByteArray) (a1 : Int) : Option Bool := some true
theorem accountinglaw15_FlowNew.calls (A0_0 : Option Addr) (c0_0 : Nat) (l0_0 : List S60) (A0_1 : Option Addr) (c0_1 : Nat) (l0_1 : List ByteArray) (a1 : Int) (r : Bool) (w : World) (hr0_0 : Kd.C k60 w A0_0 l0_0.length l0_0) (hc0_0 : l0_0.length ≤ c0_0) (hr0_1 : Kd.C Kd.string w A0_1 l0_1.length l0_1) (hc0_1 : l0_1.length ≤ c0_1) (h : accountinglaw15_FlowNew.f l0_0 l0_1 a1 = some r) :
    Calls Try.prog 3 #[.agg #[.slice A0_0 l0_0.length c0_0, .slice A0_1 l0_1.length c0_1], .int .i64 a1] w fun e w' => e = .returned (.bool r) ∧ Below w.heap.size w w' := by
  obtain rfl := Option.some.inj h
  exact flowNew_calls A0_0 c0_0 l0_0 A0_1 c0_1 l0_1 a1 w hr0_0 hc0_0 hr0_1 hc0_1
end Go.Proofs.Ytbbhichndfbooaa.P
namespace Go.Proofs.Ytbbhichndfbooaa.P
open Go.RowKit Go.Proofs.YtbbhichndfbooaaW.PrintWords Go.Proofs.YtbbhichndfbooaaW.PrintLast
set_option linter.unusedVariables false
set_option linter.unusedSimpArgs false
/-- No string twice. -/
def Once (l : List ByteArray) : Prop := l.Pairwise (fun a b => a.toList ≠ b.toList)
/-- A document's duties under steps and approvers. -/
structure Duty (steps : List S60) (appr : List ByteArray) (D : DocS) : Prop where
  lo : 1 ≤ D.st
  hi : D.st ≤ 6
  draft : D.st = 1 → D.ap = []
  wait : D.st = 2 → (needOf steps D.vo).2 = true ∧ (D.ap.length : Int) < (needOf steps D.vo).1
  done : D.st = 3 ∨ D.st = 5 → (needOf steps D.vo).2 = true ∧ (D.ap.length : Int) = (needOf steps D.vo).1
  other : hasB D.ap D.au = false
  once : Once D.ap
  who : ∀ a ∈ D.ap, hasB appr a = true
structure Duties (S : FlowS) : Prop where
  need : ∀ v, (needOf S.steps v).2 = true → 0 ≤ (needOf S.steps v).1
  docs : ∀ D ∈ S.docs, Duty S.steps S.appr D
theorem acted_duties {S : FlowS} {k id : Int} {user : ByteArray} {E : DocS} (h : Duties S) (hE : Duty S.steps S.appr E) : Duties (actedS S k id user E) := by
  refine ⟨h.need, fun D hD => ?_⟩
  have hD : D ∈ S.docs.set (id - 1).toNat E := hD
  rcases List.mem_or_eq_of_mem_set hD with hD | hD
  · exact h.docs D hD
  · rw [hD]; exact hE
theorem docD_mem {S : FlowS} {id : Int} {D : DocS} (h : docAt S id = some D) : docD S id = D ∧ D ∈ S.docs := ⟨docD_of h, docAt_mem h⟩
theorem one_of {x y : Int} (h : [y].contains x = true) : x = y := by simpa using h
theorem two_of {x y z : Int} (h : [y, z].contains x = true) : x = y ∨ x = z := by simpa using h
theorem submit_duties {S : FlowS} (h : Duties S) (id : Int) (user : ByteArray) : Duties (submitOf S id user).2 := by
  unfold submitOf
  by_cases h0 : findOf S id user 0 [1] = 0
  · rw [if_pos h0]
    obtain ⟨D, hd, -, hs, -⟩ := find_zero h0
    obtain ⟨e1, e2⟩ := docD_mem hd
    rw [e1]
    have hD := h.docs D e2
    have hst := one_of hs
    have hap := hD.draft hst
    by_cases h2 : (needOf S.steps D.vo).2 = true
    · rw [if_pos h2]
      have hn := h.need _ h2
      refine acted_duties h ⟨?_, ?_, fun hx => ?_, fun hx => ⟨h2, ?_⟩, fun hx => ⟨h2, ?_⟩, hD.other, hD.once, hD.who⟩
      · show 1 ≤ settled _ _
        unfold settled
        split <;> decide
      · show settled _ _ ≤ 6
        unfold settled
        split <;> decide
      · have hx : settled D.ap.length (needOf S.steps D.vo).1 = 1 := hx
        unfold settled at hx
        split at hx <;> cases hx
      · have hx : settled D.ap.length (needOf S.steps D.vo).1 = 2 := hx
        unfold settled at hx
        split at hx
        · cases hx
        · show (D.ap.length : Int) < (needOf S.steps D.vo).1
          omega
      · have hx : settled D.ap.length (needOf S.steps D.vo).1 = 3 ∨ settled D.ap.length (needOf S.steps D.vo).1 = 5 := hx
        unfold settled at hx
        split at hx
        · rename_i hge
          show (D.ap.length : Int) = (needOf S.steps D.vo).1
          rw [hap] at hge ⊢
          have hge : (0 : Int) ≥ (needOf S.steps D.vo).1 := hge
          show (0 : Int) = (needOf S.steps D.vo).1
          omega
        · rcases hx with hx | hx <;> cases hx
    · rw [if_neg h2]
      exact h
  · rw [if_neg h0]
    exact h
theorem hasB_snoc (l : List ByteArray) (a s : ByteArray) : hasB (l ++ [a]) s = (hasB l s || (a.toList == s.toList)) := by
  unfold hasB
  rw [List.any_append, List.any_cons, List.any_nil, Bool.or_false]
theorem approve_duties {S : FlowS} (h : Duties S) (id : Int) (user : ByteArray) : Duties (approveOf S id user).2 := by
  unfold approveOf
  by_cases h0 : findOf S id user 1 [2] = 0
  · rw [if_pos h0]
    obtain ⟨D, hd, -, hs, hp⟩ := find_zero h0
    obtain ⟨e1, e2⟩ := docD_mem hd
    rw [e1]
    have hD := h.docs D e2
    have hst := one_of hs
    obtain ⟨w1, w2⟩ := hD.wait hst
    have hperm : hasB S.appr user = true ∧ (user.toList == D.au.toList) = false := by
      have hp : (if (1 : Int) = 0 then user.toList == D.au.toList else if (1 : Int) = 1 then hasB S.appr user && !(user.toList == D.au.toList) else (user.toList == D.au.toList) || hasB S.appr user) = true := hp
      rw [if_neg (by decide), if_pos rfl, Bool.and_eq_true, Bool.not_eq_true'] at hp
      exact hp
    by_cases h2 : hasB D.ap user = true
    · rw [if_pos h2]
      exact h
    · rw [if_neg h2]
      rw [Bool.not_eq_true] at h2
      have hlen : (D.ap ++ [user]).length = D.ap.length + 1 := by simp
      refine acted_duties h ⟨?_, ?_, fun hx => ?_, fun hx => ⟨w1, ?_⟩, fun hx => ⟨w1, ?_⟩, ?_, ?_, fun a ha => ?_⟩
      · show 1 ≤ settled _ _
        unfold settled
        split <;> decide
      · show settled _ _ ≤ 6
        unfold settled
        split <;> decide
      · have hx : settled (D.ap.length + 1) (needOf S.steps D.vo).1 = 1 := hx
        unfold settled at hx
        split at hx <;> cases hx
      · have hx : settled (D.ap.length + 1) (needOf S.steps D.vo).1 = 2 := hx
        unfold settled at hx
        split at hx
        · cases hx
        · show ((D.ap ++ [user]).length : Int) < (needOf S.steps D.vo).1
          rw [hlen]
          omega
      · have hx : settled (D.ap.length + 1) (needOf S.steps D.vo).1 = 3 ∨ settled (D.ap.length + 1) (needOf S.steps D.vo).1 = 5 := hx
        unfold settled at hx
        split at hx
        · show ((D.ap ++ [user]).length : Int) = (needOf S.steps D.vo).1
          rw [hlen]
          omega
        · rcases hx with hx | hx <;> cases hx
      · show hasB (D.ap ++ [user]) D.au = false
        rw [hasB_snoc, hD.other, hperm.2]
        rfl
      · show (D.ap ++ [user]).Pairwise _
        rw [List.pairwise_append]
        refine ⟨hD.once, List.pairwise_singleton _ _, fun x hx y hy e => ?_⟩
        rw [List.mem_singleton] at hy
        subst hy
        unfold hasB at h2
        rw [List.any_eq_false] at h2
        exact h2 x hx (beq_iff_eq.mpr e)
      · have ha : a ∈ D.ap ++ [user] := ha
        rw [List.mem_append, List.mem_singleton] at ha
        rcases ha with ha | ha
        · exact hD.who a ha
        · rw [ha]; exact hperm.1
  · rw [if_neg h0]
    exact h
theorem move_duties {S : FlowS} (h : Duties S) (kind id : Int) (user : ByteArray) (who st : Int) (sts : List Int) (hok : ∀ D : DocS, Duty S.steps S.appr D → sts.contains D.st = true → Duty S.steps S.appr { D with st := st }) : Duties (moveOf S kind id user who st sts).2 := by
  unfold moveOf
  by_cases h0 : findOf S id user who sts = 0
  · rw [if_pos h0]
    obtain ⟨D, hd, -, hs, -⟩ := find_zero h0
    obtain ⟨e1, e2⟩ := docD_mem hd
    rw [e1]
    exact acted_duties h (hok D (h.docs D e2) hs)
  · rw [if_neg h0]
    exact h
theorem reject_duties {S : FlowS} (h : Duties S) (id : Int) (user : ByteArray) : Duties (rejectOf S id user).2 :=
  move_duties h 4 id user 1 4 [2] (fun D hD hs => ⟨by show (1 : Int) ≤ 4; decide, by show (4 : Int) ≤ 6; decide, fun hx => absurd hx (by show ¬ (4 : Int) = 1; decide), fun hx => absurd hx (by show ¬ (4 : Int) = 2; decide), fun hx => absurd hx (by show ¬ ((4 : Int) = 3 ∨ (4 : Int) = 5); decide), hD.other, hD.once, hD.who⟩)
theorem cancel_duties {S : FlowS} (h : Duties S) (id : Int) (user : ByteArray) : Duties (cancelOf S id user).2 :=
  move_duties h 6 id user 0 6 [1, 4] (fun D hD hs => ⟨by show (1 : Int) ≤ 6; decide, by show (6 : Int) ≤ 6; decide, fun hx => absurd hx (by show ¬ (6 : Int) = 1; decide), fun hx => absurd hx (by show ¬ (6 : Int) = 2; decide), fun hx => absurd hx (by show ¬ ((6 : Int) = 3 ∨ (6 : Int) = 5); decide), hD.other, hD.once, hD.who⟩)
theorem post_duties {S : FlowS} (h : Duties S) (id : Int) (user : ByteArray) : Duties (postOf S id user).2 :=
  move_duties h 7 id user 2 5 [3] (fun D hD hs => ⟨by show (1 : Int) ≤ 5; decide, by show (5 : Int) ≤ 6; decide, fun hx => absurd hx (by show ¬ (5 : Int) = 1; decide), fun hx => absurd hx (by show ¬ (5 : Int) = 2; decide), fun _ => hD.done (.inl (one_of hs)), hD.other, hD.once, hD.who⟩)
theorem redraft_duties {S : FlowS} (h : Duties S) (id : Int) (user : ByteArray) : Duties (redraftOf S id user).2 := by
  unfold redraftOf
  by_cases h0 : findOf S id user 0 [4] = 0
  · rw [if_pos h0]
    obtain ⟨D, hd, -, hs, -⟩ := find_zero h0
    obtain ⟨e1, e2⟩ := docD_mem hd
    rw [e1]
    exact acted_duties h ⟨by show (1 : Int) ≤ 1; decide, by show (1 : Int) ≤ 6; decide, fun _ => rfl, fun hx => absurd hx (by show ¬ (1 : Int) = 2; decide), fun hx => absurd hx (by show ¬ ((1 : Int) = 3 ∨ (1 : Int) = 5); decide), rfl, .nil, fun a ha => by cases ha⟩
  · rw [if_neg h0]
    exact h
theorem act_duties {S : FlowS} (h : Duties S) (kind id : Int) (user : ByteArray) : Duties (actOf S kind id user).2 := by
  unfold actOf
  split
  · exact submit_duties h id user
  split
  · exact approve_duties h id user
  split
  · exact reject_duties h id user
  split
  · exact redraft_duties h id user
  split
  · exact cancel_duties h id user
  · exact post_duties h id user
theorem draft_duties {S : FlowS} (h : Duties S) (user : ByteArray) (vol : Int) : Duties (draftOf S user vol).2.2 := by
  unfold draftOf
  split
  · exact h
  split
  · exact h
  split
  · exact h
  · refine ⟨h.need, fun D hD => ?_⟩
    have hD : D ∈ S.docs ++ [⟨user, vol, 1, []⟩] := hD
    rw [List.mem_append, List.mem_singleton] at hD
    rcases hD with hD | hD
    · exact h.docs D hD
    · rw [hD]
      exact ⟨by show (1 : Int) ≤ 1; decide, by show (1 : Int) ≤ 6; decide, fun _ => rfl, fun hx => absurd hx (by show ¬ (1 : Int) = 2; decide), fun hx => absurd hx (by show ¬ ((1 : Int) = 3 ∨ (1 : Int) = 5); decide), rfl, .nil, fun a ha => by cases ha⟩
theorem play_duties {S S' : FlowS} {o : S46} {i e : Int} (h : Duties S) (hq : playOf S o = (i, e, S')) : Duties S' := by
  unfold playOf at hq
  split at hq
  · have := draft_duties h o.f2 o.f3
    rw [hq] at this
    exact this
  · have := act_duties h o.f0 o.f1 o.f2
    obtain ⟨_, h2⟩ := Prod.mk.inj hq
    obtain ⟨_, hS⟩ := Prod.mk.inj h2
    rw [hS] at this
    exact this
def actedK (kind : Int) : Int := if kind < 2 then 7 else if kind > 6 then 7 else kind
/-- The reference's Act, where the checks are those of find. -/
theorem ract_find (S : FlowS) (kind id : Int) (user : ByteArray) (sts : List Int) (hs : ∀ s, stateB kind s = sts.contains s) :
    ractOf S kind id user = if findOf S id user (whoOf kind) sts = 0 then (if (nextOf S kind (docD S id) user).2 = 0 then (0, actedS S kind id user (nextOf S kind (docD S id) user).1) else ((nextOf S kind (docD S id) user).2, S)) else (findOf S id user (whoOf kind) sts, S) := by
  unfold ractOf findOf
  cases hd : docAt S id with
  | none => rfl
  | some D =>
    rw [docD_of hd]
    simp only [hs]
    by_cases h1 : codeB user = false
    · simp only [if_pos h1]; rfl
    simp only [if_neg h1]
    by_cases h2 : sts.contains D.st = false
    · simp only [if_pos h2]; rfl
    simp only [if_neg h2]
    by_cases h3 : permB S D.au (whoOf kind) user = true
    · simp only [if_pos h3, h3, Bool.true_eq_false, if_false, if_true]
    · have h3 : permB S D.au (whoOf kind) user = false := by simpa using h3
      simp only [h3, if_true, Bool.false_eq_true, if_false]
      rfl
theorem move_eq (S : FlowS) (kind id : Int) (user : ByteArray) (who st : Int) (sts : List Int) (hs : ∀ s, stateB kind s = sts.contains s) (hw : whoOf kind = who) (hn : ∀ D, nextOf S kind D user = ({ D with st := st }, 0)) :
    ractOf S kind id user = moveOf S kind id user who st sts := by
  rw [ract_find S kind id user sts hs, hn, hw]
  rfl
theorem one_in (s z : Int) : ([z] : List Int).contains s = (s == z) := by rw [List.contains_cons]; simp
theorem two_in (s y z : Int) : ([y, z] : List Int).contains s = (s == y || s == z) := by rw [List.contains_cons, one_in]
theorem next2 {S : FlowS} {D : DocS} {user : ByteArray} : nextOf S 2 D user = if (needOf S.steps D.vo).2 = true then ({ D with st := if (needOf S.steps D.vo).1 = 0 then 3 else 2 }, 0) else (D, 3) := rfl
theorem next3 {S : FlowS} {D : DocS} {user : ByteArray} : nextOf S 3 D user = if hasB D.ap user = true then (D, 8) else ({ D with ap := D.ap ++ [user], st := if (needOf S.steps D.vo).1 ≤ ((D.ap.length : Int) + 1) then 3 else D.st }, 0) := rfl
theorem ract_act {S : FlowS} (h : Duties S) (kind id : Int) (user : ByteArray) : ractOf S (actedK kind) id user = actOf S kind id user := by
  unfold actOf
  by_cases h2 : kind = 2
  · subst h2
    rw [if_pos rfl]
    show ractOf S 2 id user = submitOf S id user
    rw [ract_find S 2 id user [1] (fun s => by rw [one_in]; rfl)]
    unfold submitOf
    show (if findOf S id user 0 [1] = 0 then _ else _) = _
    by_cases h0 : findOf S id user 0 [1] = 0
    · rw [if_pos h0, if_pos h0]
      obtain ⟨D, hd, -, hs, -⟩ := find_zero h0
      obtain ⟨e1, e2⟩ := docD_mem hd
      rw [e1]
      have hst : D.st = 1 := one_of hs
      have hap := (h.docs D e2).draft hst
      rw [next2]
      by_cases hn : (needOf S.steps D.vo).2 = true
      · rw [if_pos hn, if_pos hn]
        have h5 := h.need D.vo hn
        have e3 : (if (needOf S.steps D.vo).1 = 0 then (3 : Int) else 2) = settled D.ap.length (needOf S.steps D.vo).1 := by
          rw [hap]
          show _ = settled 0 _
          unfold settled
          by_cases hz : (needOf S.steps D.vo).1 = 0
          · rw [if_pos hz, if_pos (by rw [hz]; decide)]
          · rw [if_neg hz, if_neg (by omega)]
        rw [e3]
        rfl
      · rw [if_neg hn, if_neg hn]
        rfl
    · rw [if_neg h0, if_neg h0]
      rfl
  rw [if_neg h2]
  by_cases h3 : kind = 3
  · subst h3
    rw [if_pos rfl]
    show ractOf S 3 id user = approveOf S id user
    rw [ract_find S 3 id user [2] (fun s => by rw [one_in]; rfl)]
    unfold approveOf
    show (if findOf S id user 1 [2] = 0 then _ else _) = _
    by_cases h0 : findOf S id user 1 [2] = 0
    · rw [if_pos h0, if_pos h0]
      obtain ⟨D, hd, -, hs, -⟩ := find_zero h0
      obtain ⟨e1, e2⟩ := docD_mem hd
      rw [e1]
      have hst : D.st = 2 := one_of hs
      rw [next3]
      by_cases hb : hasB D.ap user = true
      · rw [if_pos hb, if_pos hb]
        rfl
      · rw [if_neg hb, if_neg hb]
        have e3 : (if (needOf S.steps D.vo).1 ≤ ((D.ap.length : Int) + 1) then (3 : Int) else D.st) = settled (D.ap.length + 1) (needOf S.steps D.vo).1 := by
          unfold settled
          rw [hst]
          by_cases hz : (needOf S.steps D.vo).1 ≤ ((D.ap.length : Int) + 1)
          · rw [if_pos hz, if_pos (by omega)]
          · rw [if_neg hz, if_neg (by omega)]
        rw [e3]
        rfl
    · rw [if_neg h0, if_neg h0]
      rfl
  rw [if_neg h3]
  by_cases h4 : kind = 4
  · subst h4
    rw [if_pos rfl]
    exact move_eq S 4 id user 1 4 [2] (fun s => by rw [one_in]; rfl) rfl (fun D => rfl)
  rw [if_neg h4]
  by_cases h5 : kind = 5
  · subst h5
    rw [if_pos rfl]
    show ractOf S 5 id user = redraftOf S id user
    rw [ract_find S 5 id user [4] (fun s => by rw [one_in]; rfl)]
    rfl
  rw [if_neg h5]
  by_cases h6 : kind = 6
  · subst h6
    rw [if_pos rfl]
    exact move_eq S 6 id user 0 6 [1, 4] (fun s => by rw [two_in]; rfl) rfl (fun D => rfl)
  rw [if_neg h6]
  have e : actedK kind = 7 := by
    unfold actedK
    by_cases a : kind < 2
    · rw [if_pos a]
    · rw [if_neg a, if_pos (by omega)]
  rw [e]
  exact move_eq S 7 id user 2 5 [3] (fun s => by rw [one_in]; rfl) rfl (fun D => rfl)
/-- The volumes, by the documents' numbers: none has number 0. -/
def vols (S : FlowS) : List Int := 0 :: S.docs.map (·.vo)
theorem vols_acted {S : FlowS} {k id : Int} {user : ByteArray} {D E : DocS} (hd : docAt S id = some D) (hE : E.vo = D.vo) : vols (actedS S k id user E) = vols S := by
  unfold vols
  show 0 :: (S.docs.set (id - 1).toNat E).map (·.vo) = _
  congr 1
  refine List.ext_getElem (by simp) (fun i h1 h2 => ?_)
  rw [List.getElem_map, List.getElem_map, List.getElem_set]
  split
  · rename_i e
    subst e
    have hx : S.docs[(id - 1).toNat]? = some D := by
      unfold docAt at hd
      split at hd
      · cases hd
      split at hd
      · cases hd
      · exact hd
    obtain ⟨h3, h4⟩ := List.getElem?_eq_some_iff.1 hx
    rw [hE, ← h4]
  · rfl
theorem move_vols (S : FlowS) (kind id : Int) (user : ByteArray) (who st : Int) (sts : List Int) : vols (moveOf S kind id user who st sts).2 = vols S := by
  unfold moveOf
  by_cases h : findOf S id user who sts = 0
  · rw [if_pos h]
    obtain ⟨D, hd, -⟩ := find_zero h
    rw [docD_of hd]
    exact vols_acted hd rfl
  · rw [if_neg h]
theorem act_vols (S : FlowS) (kind id : Int) (user : ByteArray) : vols (actOf S kind id user).2 = vols S := by
  unfold actOf
  split
  · unfold submitOf
    by_cases h : findOf S id user 0 [1] = 0
    · rw [if_pos h]
      obtain ⟨D, hd, -⟩ := find_zero h
      rw [docD_of hd]
      split
      · exact vols_acted hd rfl
      · rfl
    · rw [if_neg h]
  split
  · unfold approveOf
    by_cases h : findOf S id user 1 [2] = 0
    · rw [if_pos h]
      obtain ⟨D, hd, -⟩ := find_zero h
      rw [docD_of hd]
      split
      · rfl
      · exact vols_acted hd rfl
    · rw [if_neg h]
  split
  · exact move_vols S 4 id user 1 4 [2]
  split
  · unfold redraftOf
    by_cases h : findOf S id user 0 [4] = 0
    · rw [if_pos h]
      obtain ⟨D, hd, -⟩ := find_zero h
      rw [docD_of hd]
      exact vols_acted hd rfl
    · rw [if_neg h]
  split
  · exact move_vols S 6 id user 0 6 [1, 4]
  · exact move_vols S 7 id user 2 5 [3]
theorem play_vols {S S' : FlowS} {o : S46} {i e : Int} (hq : playOf S o = (i, e, S')) : vols S' = if o.f0 = 1 ∧ e = 0 then vols S ++ [o.f3] else vols S := by
  unfold playOf at hq
  by_cases hk : o.f0 = 1
  · rw [if_pos hk] at hq
    have bad : ∀ z : Int, z ≠ 0 → ((0 : Int), z, S) = (i, e, S') → vols S' = if o.f0 = 1 ∧ e = 0 then vols S ++ [o.f3] else vols S := by
      intro z hz h
      obtain ⟨rfl, h2⟩ := Prod.mk.inj h
      obtain ⟨rfl, rfl⟩ := Prod.mk.inj h2
      rw [if_neg (fun h => hz h.2)]
    unfold draftOf at hq
    by_cases h1 : codeB o.f2 = false
    · rw [if_pos h1] at hq; exact bad 7 (by decide) hq
    rw [if_neg h1] at hq
    by_cases h2 : o.f3 < 0
    · rw [if_pos h2] at hq; exact bad 2 (by decide) hq
    rw [if_neg h2] at hq
    by_cases h3 : 10000 ≤ S.docs.length
    · rw [if_pos h3] at hq; exact bad 9 (by decide) hq
    rw [if_neg h3] at hq
    obtain ⟨rfl, h2⟩ := Prod.mk.inj hq
    obtain ⟨rfl, rfl⟩ := Prod.mk.inj h2
    rw [if_pos ⟨hk, rfl⟩]
    unfold vols
    show 0 :: (S.docs ++ [(⟨o.f2, o.f3, 1, []⟩ : DocS)]).map (fun x : DocS => x.vo) = _
    rw [List.map_append]
    rfl
  · rw [if_neg hk] at hq
    rw [if_neg (fun h => hk h.1)]
    obtain ⟨_, h2⟩ := Prod.mk.inj hq
    obtain ⟨_, hS⟩ := Prod.mk.inj h2
    rw [← hS]
    exact act_vols S o.f0 o.f1 o.f2
theorem right_l0 (steps : List S60) (hl : steps.length ≤ 9223372036854775807) : ∀ (k i : Nat), flow_right.l0 k steps steps (steps.length : Int) (i : Int) = some true → ∀ j : Nat, i ≤ j → j < steps.length → 0 ≤ (rd_T60 steps (j : Int)).f1
  | 0, i, h => by cases h
  | k + 1, i, h => by
    intro j hij hj
    have hw : wrap64 ((i : Int) + 1) = ((i + 1 : Nat) : Int) := by rw [w64r (by omega) (by omega)]; omega
    rw [flow_right.l0.eq_2, if_pos (show (i : Int) < (steps.length : Int) by omega), if_pos (show (0 : Int) ≤ (i : Int) by omega), if_pos (show (i : Int) < (steps.length : Int) by omega), hw] at h
    have key : (if (rd_T60 steps (i : Int)).f1 < 0 then some false else if (rd_T60 steps (i : Int)).f1 > 5 then some false else flow_right.l0 k steps steps (steps.length : Int) ((i + 1 : Nat) : Int)) = some true → 0 ≤ (rd_T60 steps (j : Int)).f1 := by
      intro h
      by_cases h2 : (rd_T60 steps (i : Int)).f1 < 0
      · rw [if_pos h2] at h; cases h
      rw [if_neg h2] at h
      by_cases h3 : (rd_T60 steps (i : Int)).f1 > 5
      · rw [if_pos h3] at h; cases h
      rw [if_neg h3] at h
      by_cases e : j = i
      · subst e; omega
      · exact right_l0 steps hl k (i + 1) h j (by omega) hj
    split at h
    · cases h
    split at h
    · split at h
      · split at h
        · split at h
          · cases h
          · exact key h
        · cases h
      · cases h
    · exact key h
theorem right_need {steps : List S60} {k : Nat} (hl : steps.length ≤ 9223372036854775807) (h : flow_right.f k steps = some true) (v : Int) (hv : (needOf steps v).2 = true) : 0 ≤ (needOf steps v).1 := by
  have hall := right_l0 steps hl k 0 h
  unfold needOf needAt at hv ⊢
  cases hf : (steps.drop 0).find? (fun s => decide (s.f0 ≥ v)) with
  | none => rw [hf] at hv; cases hv
  | some s =>
    have hm := List.mem_of_find?_eq_some hf
    rw [List.drop_zero] at hm
    obtain ⟨j, hj, rfl⟩ := List.mem_iff_getElem.1 hm
    have := hall j (Nat.zero_le _) hj
    rw [show rd_T60 steps (j : Int) = steps[j] by simp [rd_T60, hj]] at this
    exact this
theorem duties_new {steps : List S60} {apprs : List ByteArray} (h : ∀ v, (needOf steps v).2 = true → 0 ≤ (needOf steps v).1) : Duties ⟨steps, apprs, [], []⟩ := ⟨h, fun D hD => by cases hD⟩
/-- Of any call the steps and the approvers stay. -/
theorem play_same {S S' : FlowS} {o : S46} {i e : Int} (hq : playOf S o = (i, e, S')) : S'.steps = S.steps ∧ S'.appr = S.appr := by
  have hm : ∀ (kind id : Int) (user : ByteArray) (who st : Int) (sts : List Int), (moveOf S kind id user who st sts).2.steps = S.steps ∧ (moveOf S kind id user who st sts).2.appr = S.appr := by
    intro kind id user who st sts
    unfold moveOf
    split <;> exact ⟨rfl, rfl⟩
  unfold playOf at hq
  split at hq
  · unfold draftOf at hq
    split at hq
    · obtain ⟨_, h2⟩ := Prod.mk.inj hq; obtain ⟨_, hS⟩ := Prod.mk.inj h2; rw [← hS]; exact ⟨rfl, rfl⟩
    split at hq
    · obtain ⟨_, h2⟩ := Prod.mk.inj hq; obtain ⟨_, hS⟩ := Prod.mk.inj h2; rw [← hS]; exact ⟨rfl, rfl⟩
    split at hq
    · obtain ⟨_, h2⟩ := Prod.mk.inj hq; obtain ⟨_, hS⟩ := Prod.mk.inj h2; rw [← hS]; exact ⟨rfl, rfl⟩
    · obtain ⟨_, h2⟩ := Prod.mk.inj hq; obtain ⟨_, hS⟩ := Prod.mk.inj h2; rw [← hS]; exact ⟨rfl, rfl⟩
  · obtain ⟨_, h2⟩ := Prod.mk.inj hq
    obtain ⟨_, hS⟩ := Prod.mk.inj h2
    rw [← hS]
    unfold actOf
    split
    · unfold submitOf
      split
      · split <;> exact ⟨rfl, rfl⟩
      · exact ⟨rfl, rfl⟩
    split
    · unfold approveOf
      split
      · split <;> exact ⟨rfl, rfl⟩
      · exact ⟨rfl, rfl⟩
    split
    · exact hm 4 _ _ 1 4 [2]
    split
    · unfold redraftOf
      split <;> exact ⟨rfl, rfl⟩
    split
    · exact hm 6 _ _ 0 6 [1, 4]
    · exact hm 7 _ _ 2 5 [3]
end Go.Proofs.Ytbbhichndfbooaa.P
namespace Go.Proofs.Ytbbhichndfbooaa.P
open Go.RowKit Go.Proofs.YtbbhichndfbooaaW.PrintWords Go.Proofs.YtbbhichndfbooaaW.PrintLast Go.Proofs.YtbbhichndfbooaaW.PrintMore
attribute [local go_sem] max2_int min2_int max_two min_two max_three min_three max_four min_four   -- for this text's walks alone
set_option linter.unusedVariables false
set_option linter.unusedSimpArgs false
-- NOT PRINTED: function 41 (accountingref15_Flow_permitted)
-- NOT PRINTED: function 42 (accountingref15_Flow_next)
-- NOT PRINTED: function 19 (accountingref15_Flow_Act)
/-! ### accountinglaw15_acted: function 20 -/
def accountinglaw15_acted.f (a0 : Int) : Option (Int) := if a0 < 2 then (some 7) else (if a0 > 6 then (some 7) else (some a0))
set_option maxHeartbeats 8000000 in
set_option maxRecDepth 100000 in
theorem accountinglaw15_acted.calls (a0 : Int) (r : Int) (w : World) (h : accountinglaw15_acted.f a0 = some r) :
    Calls Try.prog 20 #[.int .i64 a0] w fun e w' => e = .returned (.int .i64 r) ∧ Drawn0 w w' := by
  have H : (if a0 < 2 then (some 7) else (if a0 > 6 then (some 7) else (some a0))) = some r := h
  clear h
  by_cases c2 : a0 < 2
  · rw [if_pos c2] at H
    have c2b0 : decide (a0 < 2) = true := decide_eq_true c2
    clear c2
    obtain rfl := Option.some.inj H
    go_enter Try.func20, Try.ntmps20
    go_wp2
    go_ret
    exact ⟨by first | rfl | (simp; done) | (simp [*]; done), by repeat (first | exact Drawn0.refl _ | apply Drawn0.step)⟩
  · rw [if_neg c2] at H
    have c2b0 : decide (a0 < 2) = false := decide_eq_false c2
    clear c2
    by_cases c3 : a0 > 6
    · rw [if_pos c3] at H
      have c3b0 : decide (6 < a0) = true := decide_eq_true c3
      clear c3
      obtain rfl := Option.some.inj H
      go_enter Try.func20, Try.ntmps20
      go_wp2
      go_ret
      exact ⟨by first | rfl | (simp; done) | (simp [*]; done), by repeat (first | exact Drawn0.refl _ | apply Drawn0.step)⟩
    · rw [if_neg c3] at H
      have c3b0 : decide (6 < a0) = false := decide_eq_false c3
      clear c3
      obtain rfl := Option.some.inj H
      go_enter Try.func20, Try.ntmps20
      go_wp2
      go_ret
      exact ⟨by first | rfl | (simp; done) | (simp [*]; done), by repeat (first | exact Drawn0.refl _ | apply Drawn0.step)⟩
-- NOT PRINTED: function 43 (accountingref15_Flow_doc)
-- NOT PRINTED: function 21 (accountingref15_Flow_State)
-- NOT PRINTED: function 25 (flow_Flow_Author)
end Go.Proofs.Ytbbhichndfbooaa.P
