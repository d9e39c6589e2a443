/- The contract of the law FlowNil. -/
import Derived.Test.YtbbhichndfbooaaHandPlay
import Derived.Test.YtbbhichndfbooaaPx2
namespace Go.Proofs.Ytbbhichndfbooaa.P
open Go.RowKit Go.Proofs.YtbbhichndfbooaaW.PrintWords Go.Proofs.YtbbhichndfbooaaW.PrintLast Go.Proofs.YtbbhichndfbooaaW.PrintMore Go.Maps Go.ChangeShapes Go.WideShapes Go.WideMaps
set_option linter.unusedVariables false
set_option linter.unusedSimpArgs false
def accountinglaw15_FlowNil.f (a0_0 : Int) (a0_1 : Int) (a0_2 : ByteArray) (a0_3 : Int) : Option Bool := some true
theorem lit_46 (W : World) (o : S46) : Kd.C k46 (W.alloc (.cells #[.int .i64 o.f0, .int .i64 o.f1, .string o.f2, .int .i64 o.f3] 46)) (some ⟨W.heap.size, 0, none⟩) 1 [o] := by
  have hr : Reps (k46.M (W.alloc (.cells #[.int .i64 o.f0, .int .i64 o.f1, .string o.f2, .int .i64 o.f3] 46)) 0 (fun k => True ∧ some k ≠ (Value.slice (some ⟨W.heap.size, 0, none⟩) 1 1).ownBlock)) 4 [o] [.int .i64 o.f0, .int .i64 o.f1, .string o.f2, .int .i64 o.f3] :=
    (Reps.none _ _).snoc (c := [.int .i64 o.f0, .int .i64 o.f1, .string o.f2, .int .i64 o.f3]) (p := o) (k46_mkM _ _ _ o) rfl
  have := OwnRow.lit (e := 46) W 0 hr (Nat.zero_le _) (by simp)
  exact (Kd.R_reads' (d := k46) (ok := fun _ => True) ⟨fun _ _ => trivial, this⟩).2.2
theorem light_one (o : S46) : ∃ b, accountinglaw15_light.f 10 [] [] [o] = some b := by
  by_cases h : ((o.f2).size : Int) > 100
  · exact ⟨false, by simp [accountinglaw15_light.f, accountinglaw15_light.j0, accountinglaw15_light.l0, accountinglaw15_light.l1, rd_T46, h]⟩
  · refine ⟨true, ?_⟩
    have hw : wrap64 1 = 1 := by unfold wrap64; omega
    simp [accountinglaw15_light.f, accountinglaw15_light.j0, accountinglaw15_light.l0, accountinglaw15_light.l1, rd_T46, h, hw]
set_option maxHeartbeats 16000000 in
set_option maxRecDepth 100000 in
theorem flowNil_calls (o : S46) (w : World) : Calls Try.prog 8 #[.agg #[.int .i64 o.f0, .int .i64 o.f1, .string o.f2, .int .i64 o.f3]] w fun e w' => e = .returned (.bool true) ∧ Below w.heap.size w w' := by
  obtain ⟨b, hb⟩ := light_one o
  have HLT := Aside0.mk hb
  clear hb
  go_enter Try.func8, Try.ntmps8
  go_upto_region 1 with (fail)
  refine with_world (P := fun x => Code.wp _ _ _ _ x) _ ?_
  intro w1 hw1
  have BK : w1.heap[w.heap.size]? = some (.cells #[.int .i64 o.f0, .int .i64 o.f1, .string o.f2, .int .i64 o.f3] 46 (0, 0)) := by rw [hw1]; exact blk_new w _
  have HB1 := Aside0.mk (show Below w.heap.size w w1 from by rw [hw1]; exact below_alloc (Below.refl _ _) _)
  obtain ⟨g, hg⟩ : ∃ g, w.heap.size = g := ⟨_, rfl⟩
  rw [hg] at BK ⊢
  clear hw1 hg
  have HBK := Aside0.mk BK
  have c0 := (blk_cell BK 0).trans rfl
  have c1 := (blk_cell BK 1).trans rfl
  have c2 := (blk_cell BK 2).trans rfl
  have c3 := (blk_cell BK 3).trans rfl
  clear BK
  cases b
  · go_wp2_with (first | (go_at_call 9; refine (accountinglaw15_light.calls 10 none 0 [] none 0 [] (some ⟨w1.heap.size, 0, none⟩) 1 [o] false _ (Kd.R_reads' (Kd.R_nil k60 60 _ 0 (fun _ => True))).2.2 (Nat.le_refl _) (Kd.R_reads' (Kd.R_nil Kd.string 9 _ 0 (fun _ => True))).2.2 (Nat.le_refl _) (lit_46 w1 o) (Nat.le_refl _) HLT.out).mono ?_; rintro e w2 ⟨rfl, hb_⟩; have HB2 := Aside0.mk (below_then HB1.out HB1.out.size (below_then (below_alloc (Below.refl _ w1) _) (by simp) hb_)); clear hb_ c0 c1 c2 c3) | (go_at_call 10; refine (lives_calls _).mono ?_; rintro e w3 ⟨rfl, hb_⟩; have HB3 := Aside0.mk hb_; clear hb_))
    go_ret
    exact ⟨rfl, below_then HB2.out HB2.out.size HB3.out⟩
  · go_upto_region 4 with (first | (go_at_call 9; refine (accountinglaw15_light.calls 10 none 0 [] none 0 [] (some ⟨w1.heap.size, 0, none⟩) 1 [o] true _ (Kd.R_reads' (Kd.R_nil k60 60 _ 0 (fun _ => True))).2.2 (Nat.le_refl _) (Kd.R_reads' (Kd.R_nil Kd.string 9 _ 0 (fun _ => True))).2.2 (Nat.le_refl _) (lit_46 w1 o) (Nat.le_refl _) HLT.out).mono ?_; rintro e w2 ⟨rfl, hb_⟩; have HB12 := Aside0.mk (below_then (below_alloc (Below.refl _ w1) _) (by simp) hb_); clear hb_ c0 c1 c2 c3))
    have HB2 := Aside0.mk (below_then HB1.out HB1.out.size HB12.out)
    have HBK2 := Aside0.mk (blk_below HBK.out HB12.out)
    clear HB12 HB1 HBK
    have c0 := (blk_cell HBK2.out 0).trans rfl
    have c1 := (blk_cell HBK2.out 1).trans rfl
    have c2 := (blk_cell HBK2.out 2).trans rfl
    have c3 := (blk_cell HBK2.out 3).trans rfl
    go_upto_region 5 with (first | (go_at_call 17; refine (play_nil o _).mono ?_; rintro e w3 ⟨rfl, hb_⟩; have HB23 := Aside0.mk hb_; clear hb_ c0 c1 c2 c3))
    have HB3 := Aside0.mk (below_then HB2.out HB2.out.size HB23.out)
    have HBK3 := Aside0.mk (blk_below HBK2.out HB23.out)
    clear HB23 HB2 HBK2
    have c1 := (blk_cell HBK3.out 1).trans rfl
    have c3 := (blk_cell HBK3.out 3).trans rfl
    go_wp2_with (first | (go_at_call 13; (with_reducible refine (need_nil o.f3 _).mono ?_); rintro e w_ ⟨rfl, he_⟩; obtain rfl := he_.symm) | (go_at_call 15; (with_reducible refine (state_nil o.f1 _).mono ?_); rintro e w_ ⟨rfl, he_⟩; obtain rfl := he_.symm) | (go_at_call 25; (with_reducible refine (author_nil o.f1 _).mono ?_); rintro e w_ ⟨rfl, he_⟩; obtain rfl := he_.symm) | (go_at_call 23; (with_reducible refine (approvals_nil o.f1 _).mono ?_); rintro e w_ ⟨rfl, he_⟩; obtain rfl := he_.symm) | (go_at_call 16; (with_reducible refine (acts_nil _).mono ?_); rintro e w_ ⟨rfl, he_⟩; obtain rfl := he_.symm) | (go_at_call 10; refine (lives_calls _).mono ?_; rintro e w4 ⟨rfl, hb_⟩; have HB4 := Aside0.mk hb_; clear hb_ c1 c3))
    go_ret
    exact ⟨rfl, below_then HB3.out HB3.out.size HB4.out⟩
theorem accountinglaw15_FlowNil.calls (a0_0 : Int) (a0_1 : Int) (a0_2 : ByteArray) (a0_3 : Int) (r : Bool) (w : World) (h : accountinglaw15_FlowNil.f a0_0 a0_1 a0_2 a0_3 = some r) :
    Calls Try.prog 8 #[.agg #[.int .i64 a0_0, .int .i64 a0_1, .string a0_2, .int .i64 a0_3]] w fun e w' => e = .returned (.bool r) ∧ Below w.heap.size w w' := by
  obtain rfl := Option.some.inj h
  exact flowNil_calls ⟨a0_0, a0_1, a0_2, a0_3⟩ w
end Go.Proofs.Ytbbhichndfbooaa.P
