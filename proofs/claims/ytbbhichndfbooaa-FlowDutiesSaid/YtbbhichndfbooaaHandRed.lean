/- The contract of Redraft. -/
import Derived.Test.YtbbhichndfbooaaHandApp
import Derived.Lib.SliceRun
namespace Go.Proofs.Ytbbhichndfbooaa.P
open Go.RowKit Go.Proofs.YtbbhichndfbooaaW.PrintWords Go.Proofs.YtbbhichndfbooaaW.PrintLast Go.Proofs.YtbbhichndfbooaaW.PrintMore Go.Maps Go.ChangeShapes Go.WideShapes Go.WideMaps
set_option linter.unusedVariables false
set_option linter.unusedSimpArgs false
theorem setCells_block (b t : Nat) : ∀ (vs : List Value) (o : Nat) (w : World) (cur : Array Value), w.heap[b]? = some (.cells cur t (0, 0)) → ∃ cur', (w.setCells b o vs).heap[b]? = some (.cells cur' t (0, 0)) ∧ cur'.size = cur.size
  | [], o, w, cur, h => ⟨cur, h, rfl⟩
  | v :: r, o, w, cur, h => by
    obtain ⟨cur', h1, h2⟩ := setCells_block b t r (o + 1) (w.setCell ⟨b, o, none⟩ v) _ (blk_set h o v)
    exact ⟨cur', h1, by rw [h2]; simp⟩
theorem setCells_but (b : Nat) : ∀ (vs : List Value) (o : Nat) (w : World), But (fun k => k = b) w (w.setCells b o vs)
  | [], o, w => But.refl _ _
  | v :: r, o, w => ((But.refl (fun k => k = b) w).setCell (p := ⟨b, o, none⟩) rfl v).trans (setCells_but b r (o + 1) _)
theorem wpList_clear_run {P : Program} {w : World} {ops : Array Oper} {rest : List Oper} {o : Oper} {a : Act} {Q : Exit → Act → World → Prop} (hg : o.guard = none) (m : Operand) (t : TypeId)
    (hop : o.op = Op.call { callee := Callee.builtin Builtin.clear, args := #[m], argTypes := #[t] }) (v : Value) (hm : a.eval m = v) (w' : World) (hrun : (Builtin.clear_ #[t] o.type #[v]).run P w = .ok (.tuple #[]) w')
    (hK : wpList P ops Q rest (a.put o.dst (.tuple #[])) w') : wpList P ops Q (o :: rest) a w := by
  refine wpList_plain hg fun K' hK' => ?_
  unfold Oper.wp
  simp [execOp, hop, resolve, invoke, builtin, hm, hrun, Result.andThen]
  exact hK' _ _ hK
/-- A row of strings, cleared and cut to nothing. -/
theorem row_cleared {w : World} {F : Nat → Prop} {A : Option Addr} {n c : Nat} {xs : List ByteArray} (h : Kd.string.R 9 w 0 F (.slice A n c) xs) (hn : n = xs.length) :
    ∃ w', (∀ ty, (Builtin.clear_ #[23] ty #[.slice A n c]).run Try.prog w = .ok (.tuple #[]) w') ∧ Kd.string.R 9 w' 0 F (.slice A 0 c) [] ∧ But (fun k => (Value.slice A n c).ownBlock = some k) w w' := by
  obtain ⟨h0, inner, hown, hr⟩ := h
  rcases hown.2 with ⟨hnil, hz⟩ | ⟨g, cap, cur, hv, hb, hh, h1, h2, h3, h4⟩
  · cases hnil
    refine ⟨w, fun ty => by simp [Builtin.clear_, run_underlying Try.underlying23], Kd.R_nil _ _ _ _ _, But.refl _ _⟩
  · cases hv
    have hrow : ∀ (w' : World) (cur' : Array Value), w'.heap[g]? = some (.cells cur' 9 (0, 0)) → cur'.size = cur.size → Kd.string.R 9 w' 0 F (.slice (some ⟨g, 0, none⟩) 0 c) [] := fun w' cur' hc hs =>
      ⟨fun k hk => h0 k hk, [], ⟨by simp, .inr ⟨g, c, cur', rfl, Nat.zero_le _, hc, Nat.zero_le _, h2, by rw [hs]; exact h3, by simp⟩⟩, Reps.none _ _⟩
    by_cases hn0 : xs.length = 0
    · rw [hn0]
      exact ⟨w, fun ty => by simp [Builtin.clear_, run_underlying Try.underlying23], hrow w cur hh rfl, But.refl _ _⟩
    · have hrun := fun ty => Lib.run_clear_slice (P := Try.prog) w 23 9 ty (.string ⟨#[]⟩) Try.underlying23 (fun W => by kernel_rfl) rfl rfl g 0 xs.length c (by omega)
        (fun j hj => by rw [Nat.zero_add, blk_cell hh j]; simp; have : Kd.string.sz = 1 := rfl; rw [this] at h3; omega) (fun j hj => blk_frozen hh _)
      obtain ⟨cur', hc', hs'⟩ := setCells_block g 9 (List.replicate xs.length (.string ⟨#[]⟩)) 0 w cur hh
      exact ⟨_, hrun, hrow _ cur' hc' hs', (setCells_but g _ 0 w).mono (fun k _ e => by rw [e]; rfl)⟩
theorem docAt_acted {S : FlowS} {kind id : Int} {user : ByteArray} {D E : DocS} (h : docAt S id = some D) : docAt (actedS S kind id user E) id = some E := by
  unfold docAt at h ⊢
  by_cases h1 : id < 1
  · rw [if_pos h1] at h; cases h
  · rw [if_neg h1] at h ⊢
    by_cases h2 : id > S.docs.length
    · rw [if_pos h2] at h; cases h
    · have h3 : ¬ id > (actedS S kind id user E).docs.length := by
        show ¬ id > (S.docs.set (id - 1).toNat E).length
        rw [List.length_set]
        exact h2
      rw [if_neg h3]
      exact List.getElem?_set_self (by omega)
def redraftOf (S : FlowS) (id : Int) (user : ByteArray) : Int × FlowS :=
  if findOf S id user 0 [4] = 0 then (0, actedS S 5 id user { docD S id with st := 1, ap := [] }) else (findOf S id user 0 [4], S)
set_option maxHeartbeats 4000000 in
set_option maxRecDepth 100000 in
theorem redraft_calls (p : Nat) (S : FlowS) (F : Nat → Prop) (id : Int) (hid : (Lit.int .i64 id).wf = true) (user : ByteArray) (w : World) (h : Flw w F p S) (hn : S.acts.length ≤ 1000000) :
    Calls Try.prog 58 #[.pointer (some ⟨p, 0, none⟩), .int .i64 id, .string user] w fun e w' => e = .returned (.int .i64 (redraftOf S id user).1) ∧ After F w w' p (redraftOf S id user).2 := by
  have HF := Aside0.mk h
  have hmv : ∀ w', Flw w' F p S → (Kd.int .i64).C w' (some ⟨w.heap.size, 0, none⟩) 1 [4] → Calls Try.prog 50 #[.pointer (some ⟨p, 0, none⟩), .int .i64 5, .int .i64 id, .string user, .int .i64 0, .int .i64 1, .slice (some ⟨w.heap.size, 0, none⟩) 1 1] w' fun e w'' => e = .returned (.int .i64 (moveOf S 5 id user 0 1 [4]).1) ∧ After F w' w'' p (moveOf S 5 id user 0 1 [4]).2 :=
    fun w' hw hc => move_calls p S F 5 id hid user 0 1 (some ⟨w.heap.size, 0, none⟩) 1 [4] (by decide) w' hw hc hn
  unfold moveOf at hmv
  unfold redraftOf
  by_cases h0 : findOf S id user 0 [4] = 0
  · rw [if_pos h0] at hmv ⊢
    obtain ⟨D, hd, -⟩ := find_zero h0
    have hde : docD S id = D := by unfold docD; rw [hd]; rfl
    rw [hde] at hmv ⊢
    have hda : docAt (actedS S 5 id user { D with st := 1 }) id = some { D with st := 1 } := docAt_acted hd
    obtain ⟨S1, hS1⟩ : ∃ S1, actedS S 5 id user { D with st := 1 } = S1 := ⟨_, rfl⟩
    rw [hS1] at hmv hda
    have HS1 := Aside0.mk hS1
    have HDA := Aside0.mk hda
    have HMV := Aside0.mk hmv
    clear h h0 hd hde hda hS1 hmv
    go_enter Try.func58, Try.ntmps58
    go_upto_region 4 with (first | (go_at_call 50; refine (HMV.out _ (HF.out.alloc _) (lit_C w [4] (by decide))).mono ?_; rintro e w1 ⟨rfl, ha⟩; have HA := Aside0.mk ha; clear ha))
    obtain ⟨G, ⟨L, h1⟩, hs1⟩ := HA.out
    have HST := Aside0.mk (((Stp.refl F w).alloc _).trans hs1)
    clear hs1 HA
    rcases doc_cases h1 id with ⟨_, h2⟩ | ⟨j, b, E, v, g1, g2, gj, -, a1, a2, a3, hD⟩
    · rw [HDA.out] at h2; cases h2
    rw [HDA.out] at g2
    obtain rfl := Option.some.inj g2
    obtain ⟨Av, cv, hv⟩ := Kd.R_slice hD.row
    have hv : v = .slice Av D.ap.length cv := hv
    subst hv
    obtain ⟨w2, hcl, hrow2, hbut2⟩ := row_cleared hD.row rfl
    have HG1 := Aside0.mk g1
    have HJ := Aside0.mk gj
    have HA1 := Aside0.mk a1
    have HA2 := Aside0.mk a2
    have HA3 := Aside0.mk a3
    have HD := Aside0.mk hD
    have HCL := Aside0.mk hcl
    have HR2 := Aside0.mk hrow2
    have HB2 := Aside0.mk hbut2
    have HP1 := Aside0.mk h1
    have hb2 : w2.heap[b]? = some (.cells #[.string D.au, .int .i64 D.vo, .int .i64 1, .slice Av D.ap.length cv] 75 (0, 0)) := hbut2.obj hD.blk (fun e => typed_ne (hD.tv e) hD.tb (by decide) rfl)
    have c3 := (blk_cell hD.blk 3).trans rfl
    have c3' := (blk_cell hb2 3).trans rfl
    have f3' := blk_frozen hb2 3
    have HBB := Aside0.mk hb2
    clear g1 gj a1 a2 a3 hD hcl hrow2 hbut2 h1 g2 hb2
    go_wp2_with (first | (go_at_call 36; refine (doc_some hid HP1.out HG1.out).mono ?_; rintro e w' ⟨rfl, he_⟩; obtain rfl := he_.symm) | ((with_reducible refine gate_builtin (b := .clear) (xs := #[.tmp 23]) rfl ?_); refine wpList_clear_run rfl (.tmp 23) 23 rfl (.slice Av D.ap.length cv) rfl w2 (HCL.out _) ?_))
    go_ret
    have hj : (id - 1).toNat = j := by have := HJ.out; omega
    have hbG := HD.out.own
    have hst : (w2.setCell ⟨b, 3, none⟩ (.slice Av 0 cv)).heap.size = w2.heap.size := by simp [World.setCell]
    have hF3 : FlwP (w2.setCell ⟨b, 3, none⟩ (.slice Av 0 cv)) G p { S1 with docs := S1.docs.set j { D with st := 1, ap := [] } } { L with vp := L.vp.set j (.slice Av 0 cv) } := by
      refine HP1.out.turned_doc HA1.out HA2.out HA3.out (fun _ hk => hk) (fun k hk hkb hv => ?_) ⟨blk_put HBB.out 3 _ rfl, hbG, ?_⟩ (fun k hk => .inl (by cases Av <;> exact hk)) (fun k hk => ?_)
      · rw [Below.heap_setCell _ _ _ _ hkb]
        exact HB2.out.block k (HP1.out.lt k hk) hv
      · exact Kd.R_mono (Kd.R_far (Kd.R_types HR2.out HBB.out (by decide)) (fun k hk => hk.2) _) (fun k hk => hk.1)
      · rw [hst]
        exact Nat.lt_of_lt_of_le (HP1.out.lt k hk) HB2.out.size
    have hB3 : But G w1 (w2.setCell ⟨b, 3, none⟩ (.slice Av 0 cv)) := (HB2.out.mono (fun k _ e => HD.out.row.1 k e)).setCell (by exact hbG) _
    refine ⟨rfl, ?_⟩
    have hfin := After.then HST.out ⟨G, ⟨_, hF3⟩, ⟨hB3, fun _ hk => .inl hk⟩⟩
    rw [← HS1.out, ← hj] at hfin
    have hss : (S.docs.set (id - 1).toNat { D with st := 1 }).set (id - 1).toNat { D with st := 1, ap := [] } = S.docs.set (id - 1).toNat { D with st := 1, ap := [] } := by rw [List.set_set]
    unfold actedS at hfin ⊢
    rw [← hss]
    exact hfin
  · rw [if_neg h0] at hmv ⊢
    obtain ⟨r, hr⟩ : ∃ r, findOf S id user 0 [4] = r := ⟨_, rfl⟩
    rw [hr] at hmv h0 ⊢
    have hb : (r != 0) = true := bne_iff_ne.mpr h0
    have HMV := Aside0.mk hmv
    clear h h0 hr hmv
    go_enter Try.func58, Try.ntmps58
    go_wp2_with (first | (go_at_call 50; refine (HMV.out _ (HF.out.alloc _) (lit_C w [4] (by decide))).mono ?_; rintro e w1 ⟨rfl, ha⟩; have HA := Aside0.mk ha; clear ha))
    go_ret
    exact ⟨rfl, after_alloc HA.out⟩
end Go.Proofs.Ytbbhichndfbooaa.P
