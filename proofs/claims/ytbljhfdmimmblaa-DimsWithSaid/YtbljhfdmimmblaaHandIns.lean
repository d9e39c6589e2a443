/- The contract of dims.insert: a tag is put before the first one whose name is not less. -/
import Derived.Test.YtbljhfdmimmblaaPx0
import Derived.Deep.RegionLaw
import Derived.Deep.RegionLawGrows
import Derived.Deep.AppendLies
import Derived.Lib.Hide
import Derived.Deep.Upon
import Derived.Deep.AppendSrc
import Derived.Deep.Slices
import Derived.Deep.Upon
import Derived.Deep.AppendSrc
import Derived.RegionTactic
namespace Go.Proofs.Ytbljhfdmimmblaa.P
open Go.RowKit Go.Proofs.YtbljhfdmimmblaaW.PrintWords Go.Proofs.YtbljhfdmimmblaaW.PrintLast Go.Proofs.YtbljhfdmimmblaaW.PrintMore
set_option linter.unusedVariables false
set_option linter.unusedSimpArgs false
def insAt (l : List S39) (n : ByteArray) : Nat := (l.takeWhile fun x => Op.bytesLess x.f0.toList n.toList).length
def dims_insert.f (l : List S39) (t0 t1 : ByteArray) : Option (List S39) := if l.length ≤ 1000000 then some (l.take (insAt l t0) ++ [⟨t0, t1⟩] ++ l.drop (insAt l t0)) else none
theorem with_world {P : World → Prop} (W : World) (h : ∀ w2, w2 = W → P w2) : P W := h W rfl
theorem step_append_zero {P : Program} {ops : Array Oper} {o : Oper} {a : Act} {w : World} {K : Act → World → Prop} {Q : Exit → Act → World → Prop} {E : Prop}
    (hg : o.guard = none) (s x : Operand) (t : TypeId) (hop : o.op = Op.call { callee := Callee.builtin Builtin.append, args := #[s, x], argTypes := #[t, t] })
    (e : TypeId) (i : TypeInfo) (h1 : P.underlying t = some (.slice e)) (h2 : P.info? e = some i) (A : Option Addr) (n cap : Nat) (hle : n ≤ cap) (hs : a.eval s = .slice A n cap) (X : Value) (hx : a.eval x = X) (hsrc : Src P i.size t X 0 [] w)
    (hK : K (a.put o.dst (.slice A n cap)) w) :
    if Region.wanted o (yielded ops a.tmps) = true then Oper.wp P o a w K Q else E := by
  have hw : Region.wanted o (yielded ops a.tmps) = true := by simp [Region.wanted, hg]
  rw [if_pos hw]
  have hrun := run_append_nothing (P := P) w t t o.type e i h1 h2 A n cap hle X hsrc
  unfold Oper.wp
  simp [execOp, hop, resolve, invoke, builtin, hs, hx, hrun, Result.andThen]
  exact hK
theorem own_form {w : World} {base : Nat} {e : TypeId} {size : Nat} {v : Value} {n : Nat} {xs : List Value} (h : w.ownsRow base e size v n xs) (hn : 0 < n) : ∃ g c, v = .slice (some ⟨g, 0, none⟩) n c ∧ n ≤ c := by
  obtain ⟨h1, h2⟩ := h
  rcases h2 with ⟨rfl, h0⟩ | ⟨g, cap, cur, rfl, hg, hh, hr⟩
  · omega
  · exact ⟨g, cap, rfl, by omega⟩
theorem src_zero (w : World) (B : Option Addr) (c s : Nat) : Src Try.prog s 22 (.slice B 0 c) 0 [] w := by
  cases B with
  | none => exact Src.ofNil w Try.underlying22 c
  | some a => exact Src.ofSlice w Try.underlying22 a 0 c [] (by simp) (fun j u h => by simp at h) (fun u h => by simp at h)
def flat : List S39 → List Value
  | [] => []
  | x :: r => .string x.f0 :: .string x.f1 :: flat r
theorem flat_len (l : List S39) : (flat l).length = l.length * 2 := by
  induction l with
  | nil => rfl
  | cons x r ih => simp only [flat, List.length_cons, ih]; omega
theorem flat_app (a b : List S39) : flat (a ++ b) = flat a ++ flat b := by
  induction a with
  | nil => rfl
  | cons x r ih => simp [flat, ih]
theorem flat_one (l : List S39) : ∀ u ∈ flat l, u.oneCell' = true := by
  induction l with
  | nil => simp [flat]
  | cons x r ih =>
    intro u hu
    simp only [flat, List.mem_cons] at hu
    rcases hu with rfl | rfl | hu
    · rfl
    · rfl
    · exact ih u hu
theorem flat_at (l : List S39) : ∀ (j : Nat) (u : Value), (flat l)[j]? = some u → ∃ x, l[j / 2]? = some x ∧ [Value.string x.f0, Value.string x.f1][j % 2]? = some u := by
  induction l with
  | nil => intro j u h; simp [flat] at h
  | cons x r ih =>
    intro j u h
    match j with
    | 0 => exact ⟨x, rfl, h⟩
    | 1 => exact ⟨x, rfl, h⟩
    | j + 2 =>
      obtain ⟨y, h1, h2⟩ := ih j u h
      refine ⟨y, ?_, ?_⟩
      · rw [show (j + 2) / 2 = j / 2 + 1 by omega]; exact h1
      · rw [show (j + 2) % 2 = j % 2 by omega]; exact h2
theorem flat_cells {w : World} {ad : Addr} {l : List S39} (h : Kd.C k39 w (some ad) l.length l) : ∀ j u, (flat l)[j]? = some u → w.cell? (ad.add j) = some u := by
  intro j u hu
  obtain ⟨x, h1, h2⟩ := flat_at l j u hu
  have hlt : j / 2 < l.length := (List.getElem?_eq_some_iff.1 h1).1
  obtain ⟨ad', e, hc⟩ := h.2.2 (by omega)
  obtain rfl : ad = ad' := Option.some.inj e
  obtain ⟨c, hcl, hK, hcell⟩ := hc _ _ h1
  obtain rfl := k39_open hK
  have := hcell (j % 2) u h2
  rw [show j / 2 * k39.sz + j % 2 = j by show j / 2 * 2 + j % 2 = j; omega] at this
  exact this
theorem flat_take (l : List S39) (k : Nat) : flat (l.take k) = (flat l).take (k * 2) := by
  induction l generalizing k with
  | nil => simp [flat]
  | cons x r ih =>
    cases k with
    | zero => simp [flat]
    | succ k => rw [show (k + 1) * 2 = k * 2 + 2 by omega]; simp [flat, ih]
theorem flat_drop (l : List S39) (k : Nat) : flat (l.drop k) = (flat l).drop (k * 2) := by
  induction l generalizing k with
  | nil => simp [flat]
  | cons x r ih =>
    cases k with
    | zero => simp [flat]
    | succ k => rw [show (k + 1) * 2 = k * 2 + 2 by omega]; simp [flat, ih]
theorem reps_flat (w : World) (base : Nat) (ok : Nat → Prop) (l : List S39) : Reps (k39.M w base ok) 2 l (flat l) := by
  refine ⟨flat_len l, fun j p hj => ?_⟩
  rw [← flat_drop, show (flat (l.drop j)).take 2 = flat ((l.drop j).take 1) by rw [flat_take]]
  have hlt : j < l.length := (List.getElem?_eq_some_iff.1 hj).1
  rw [List.drop_eq_getElem_cons hlt]
  have : l[j] = p := by rw [List.getElem?_eq_getElem hlt] at hj; exact Option.some.inj hj
  rw [this]
  exact k39_mkM w base ok p
theorem R_flat {w : World} {base n : Nat} {v : Value} {l : List S39} (hn : l.length = n) (h : w.ownsRow base 39 2 v n (flat l)) : Kd.R k39 39 w base (fun _ => True) v l := by
  subst hn
  exact ⟨fun _ _ => trivial, flat l, h, reps_flat w base _ l⟩
theorem insAt_eq (l : List S39) (n : ByteArray) : ∀ (k : Nat), k ≤ l.length → (∀ j, j < k → Op.bytesLess (rd_T39 l (j : Int)).f0.toList n.toList = true) → (k < l.length → Op.bytesLess (rd_T39 l (k : Int)).f0.toList n.toList = false) → insAt l n = k := by
  induction l with
  | nil => intro k hk h1 h2; simp at hk; subst hk; rfl
  | cons x r ih =>
    intro k hk h1 h2
    have hr : ∀ j : Nat, rd_T39 (x :: r) ((j + 1 : Nat) : Int) = rd_T39 r (j : Int) := fun j => by simp [rd_T39]
    have hx : rd_T39 (x :: r) ((0 : Nat) : Int) = x := rfl
    cases k with
    | zero =>
      have := h2 (by simp)
      rw [hx] at this
      unfold insAt
      rw [List.takeWhile_cons_of_neg (by simp [this])]; rfl
    | succ k =>
      have h0 := h1 0 (by omega)
      rw [hx] at h0
      have := ih k (by simpa using hk) (fun j hj => by have := h1 (j + 1) (by omega); rwa [hr] at this) (fun hlt => by have := h2 (by simp; omega); rwa [hr] at this)
      unfold insAt at this ⊢
      rw [List.takeWhile_cons_of_pos (by simp [h0]), List.length_cons, this]
set_option maxHeartbeats 4000000 in
set_option maxRecDepth 1000000 in
theorem insert_walk (ad : Addr) (c0 : Nat) (l : List S39) (t0 t1 : ByteArray) (w : World) (hr0 : Kd.C k39 w (some ad) l.length l) (hc0 : l.length ≤ c0) (hl : l.length ≤ 1000000) :
    Calls Try.prog 25 #[.slice (some ad) l.length c0, .agg #[.string t0, .string t1]] w fun e w' => ∃ v0_ : Value, e = .returned (v0_) ∧ Kd.R k39 39 w' w.heap.size (fun _ => True) v0_ (l.take (insAt l t0) ++ [⟨t0, t1⟩] ++ l.drop (insAt l t0)) ∧ Below w.heap.size w w' := by
  have hu39 := Try.underlying39
  obtain ⟨i0, hi0, hz0, hz1, hz2⟩ := info_parts info39
  go_enter Try.func25, Try.ntmps25
  go_wp2
  refine with_world (P := fun x => Code.wp _ _ _ _ x) _ ?_
  intro w1 hw
  have BK0 : w1.heap[w.heap.size]? = some (.cells #[.string t0, .string t1] 39 (0, 0)) := by rw [hw]; exact blk_new _ _
  have HB0 : Below w.heap.size w w1 := by rw [hw]; exact below_alloc (Below.refl _ _) _
  have HR0 : Kd.C k39 w1 (some ad) l.length l := Kd.C_below hr0 HB0
  clear hw hr0
  have HR := Aside0.mk HR0
  have b0 := (blk_cell BK0 0).trans rfl
  have b1 := (blk_cell BK0 1).trans rfl
  have BK := Aside0.mk BK0
  have HB := Aside0.mk HB0
  clear BK0 HB0 HR0
  have hl2 : (l.length : Int) ≤ 1000000 := by omega
  go_loopw [5, 6, 7, 8, 9, 10, 11, 12, 13, 14, 15, 16, 17, 18, 19, 20, 21] (fun i _ _ _ _ _ _ _ _ _ _ _ _ _ _ _ _ w' => ∃ k : Nat, k ≤ l.length ∧ i = .int .i64 k ∧ Aside0 (∀ j, j < k → Op.bytesLess (rd_T39 l (j : Int)).f0.toList t0.toList = true) ∧ Drawn0 w1 w') (fun i _ _ _ _ _ _ _ _ _ _ _ _ _ _ _ _ _ => l.length - (intOf i).toNat)
  case atStart => exact ⟨0, Nat.zero_le _, rfl, ⟨fun j hj => by omega⟩, Drawn0.refl _⟩
  case round =>
    obtain ⟨k, hk, rfl, HA, ⟨n, rfl⟩⟩ := hrel
    have hkc : k ≤ c0 := by omega
    have hic : Int.toNat (k : Int) = k := Int.toNat_natCast k
    by_cases hlt : k < l.length
    · obtain ⟨ad', e, c1, c2⟩ := at_T39 HR.out (k : Int) (by omega) (by omega)
      obtain rfl : ad = ad' := Option.some.inj e
      rw [Int.toNat_natCast] at c1 c2
      have d1 : decide ((k : Int) < (l.length : Int)) = true := decide_eq_true (by omega)
      have d2 : decide (k < l.length) = true := decide_eq_true hlt
      have p0 : (0 : Int) ≤ (k : Int) := by omega
      have p1 : (k : Int) < (l.length : Int) := by omega
      cases hb : Op.bytesLess (rd_T39 l (k : Int)).f0.toList t0.toList
      · have HI := Lib.hid (insAt_eq l t0 k hk HA.out (fun _ => hb))
        have hne : ¬ c0 = k := by omega
        have o1 := Aside0.mk (show (flat (l.take k)).length = k * 2 by rw [flat_len, List.length_take]; omega)
        have o2 := Aside0.mk (fun (m : Nat) => show ∀ b, some ad = some b → ∀ j u, (flat (l.take k))[j]? = some u → ((w1.drewN m).alloc (.cells #[.string t0, .string t1] 39)).cell? (b.add j) = some u from fun b e j u hu => by
          obtain rfl := Option.some.inj e
          have hC : Kd.C k39 ((w1.drewN m).alloc (.cells #[.string t0, .string t1] 39)) (some ad) l.length l := Kd.C_below HR.out (below_alloc (pw_below_drewN (Below.refl _ _) m) _)
          rw [flat_take] at hu
          exact flat_cells hC j u ((List.getElem?_take_of_lt (by have := (List.getElem?_eq_some_iff.1 hu).1; simp at this; omega)).symm.trans hu))
        have o3 := Aside0.mk (fun (m : Nat) => show ∀ j u, [Value.string t0, Value.string t1][j]? = some u → ((w1.drewN m).alloc (.cells #[.string t0, .string t1] 39)).cell? ((⟨w1.heap.size, 0, none⟩ : Addr).add j) = some u from fun j u hu => by
          have hh : ((w1.drewN m).alloc (.cells #[.string t0, .string t1] 39)).heap[w1.heap.size]? = some (.cells #[.string t0, .string t1] 39 (0, 0)) := blk_new (w1.drewN m) _
          have := blk_cell hh j
          rw [show (⟨w1.heap.size, 0, none⟩ : Addr).add j = ⟨w1.heap.size, j, none⟩ by simp [Addr.add, eq_comm]]
          rw [this]; simpa using hu)
        have hbw := Aside0.mk (fun (m : Nat) => show Below w.heap.size w ((w1.drewN m).alloc (.cells #[.string t0, .string t1] 39)) from HB.out.trans ((below_alloc (pw_below_drewN (Below.refl w1.heap.size w1) m) _).mono HB.out.size))
        have hbw1 := Aside0.mk (fun (m : Nat) => show Below w1.heap.size w1 ((w1.drewN m).alloc (.cells #[.string t0, .string t1] 39)) from below_alloc (pw_below_drewN (Below.refl w1.heap.size w1) m) _)
        go_wp2
        go_quiet (fail)
        go_wp2
        go_region_law (first | (refine step_append_grows rfl (.tmp 25) (.tmp 27) 22 rfl 39 i0 (.agg #[.string ⟨#[]⟩, .string ⟨#[]⟩]) 2 32 Try.underlying22 hi0 hz0 hz1 hz2 rfl (by decide) (some ad) k k (flat (l.take k)) (by simp [Act.eval, Act.put]) (by simp) o1.out (o2.out _) ⟨w1.heap.size, 0, none⟩ 1 1 [.string t0, .string t1] (by simp [Act.eval, Act.put]) rfl (o3.out _) (by simp [Value.oneCell']) (by omega) (by unfold maxLen; omega) (by omega) ?_; intro v1 w2 ho hg; have HO := Aside0.mk (own_weaken ho (hbw.out _).size); have HB2 := Aside0.mk (Below.grown (hbw.out _) hg (hbw.out _).size (fun k_ e_ => by simp at e_)); have HC2 := Aside0.mk (Kd.C_below HR.out (Below.grown (hbw1.out _) hg (hbw1.out _).size (fun k_ e_ => by simp at e_))); clear ho hg) | (refine step_append_lies _ rfl (.tmp 28) (.tmp 31) 22 rfl w.heap.size 39 i0 (.agg #[.string ⟨#[]⟩, .string ⟨#[]⟩]) 2 32 Try.underlying22 hi0 hz0 hz1 hz2 rfl (by decide) v1 (k + 1) (flat (l.take k) ++ [.string t0, .string t1]) (by simp [Act.eval, Act.put]) HO.out (ad.add (k * 2)) (l.length - k) (c0 - k) (flat (l.drop k)) (by simp [Act.eval, Act.put]) (by rw [flat_len, List.length_drop]) (fun j u hu => by rw [Go.Deep.add_add]; rw [flat_drop, List.getElem?_drop] at hu; exact flat_cells HC2.out _ u hu) (flat_one _) (by omega) (by unfold maxLen; omega) (by omega) HB2.out.size w2.heap.size rfl ?_; intro g cap w3 ho3 hg3 _ _; have HO3 := Aside0.mk ho3; have HB3 := Aside0.mk (Below.grown HB2.out hg3 HB2.out.size (fun k_ e_ => own_base HO.out k_ e_)); clear ho3 hg3))
        go_wp2
        go_ret
        refine ⟨_, rfl, ?_, HB3.out⟩
        rw [HI.out]
        refine R_flat ?_ ?_ (n := k + 1 + (l.length - k))
        · simp; omega
        · have := HO3.out
          rw [flat_app, flat_app]
          exact this
      · go_wp2
        go_quiet (fail)
        go_wp2
        refine ⟨⟨k + 1, by omega, rfl, ⟨fun j hj => ?_⟩, by repeat (first | exact Drawn0.refl _ | apply Drawn0.step)⟩, by simp [intOf]; omega⟩
        rcases Nat.lt_or_ge j k with h | h
        · exact HA.out j h
        · obtain rfl : j = k := by omega
          exact hb
    · have hkl : k = l.length := by omega
      have HI := Lib.hid (insAt_eq l t0 k hk HA.out (fun h => absurd h hlt))
      have d1 : decide ((k : Int) < (l.length : Int)) = false := decide_eq_false (by omega)
      have d2 : decide (k < l.length) = false := decide_eq_false hlt
      have hll : l.length ≤ k := by omega
      have hkl' := Lib.hid hkl
      clear hkl
      obtain ⟨B, hB⟩ : ∃ B : Option Addr, (if c0 = k then some ad else some (ad.add (k * 2))) = B := ⟨_, rfl⟩
      have o1 := Aside0.mk (show (flat (l.take k)).length = k * 2 by rw [flat_len, List.length_take]; omega)
      have o2 := Aside0.mk (fun (m : Nat) => show ∀ b, some ad = some b → ∀ j u, (flat (l.take k))[j]? = some u → ((w1.drewN m).alloc (.cells #[.string t0, .string t1] 39)).cell? (b.add j) = some u from fun b e j u hu => by
        obtain rfl := Option.some.inj e
        have hC : Kd.C k39 ((w1.drewN m).alloc (.cells #[.string t0, .string t1] 39)) (some ad) l.length l := Kd.C_below HR.out (below_alloc (pw_below_drewN (Below.refl _ _) m) _)
        rw [flat_take] at hu
        exact flat_cells hC j u ((List.getElem?_take_of_lt (by have := (List.getElem?_eq_some_iff.1 hu).1; simp at this; omega)).symm.trans hu))
      have o3 := Aside0.mk (fun (m : Nat) => show ∀ j u, [Value.string t0, Value.string t1][j]? = some u → ((w1.drewN m).alloc (.cells #[.string t0, .string t1] 39)).cell? ((⟨w1.heap.size, 0, none⟩ : Addr).add j) = some u from fun j u hu => by
        have hh : ((w1.drewN m).alloc (.cells #[.string t0, .string t1] 39)).heap[w1.heap.size]? = some (.cells #[.string t0, .string t1] 39 (0, 0)) := blk_new (w1.drewN m) _
        have := blk_cell hh j
        rw [show (⟨w1.heap.size, 0, none⟩ : Addr).add j = ⟨w1.heap.size, j, none⟩ by simp [Addr.add, eq_comm]]
        rw [this]; simpa using hu)
      have hbw := Aside0.mk (fun (m : Nat) => show Below w.heap.size w ((w1.drewN m).alloc (.cells #[.string t0, .string t1] 39)) from HB.out.trans ((below_alloc (pw_below_drewN (Below.refl w1.heap.size w1) m) _).mono HB.out.size))
      have hbw1 := Aside0.mk (fun (m : Nat) => show Below w1.heap.size w1 ((w1.drewN m).alloc (.cells #[.string t0, .string t1] 39)) from below_alloc (pw_below_drewN (Below.refl w1.heap.size w1) m) _)
      go_wp2
      go_quiet (fail)
      go_wp2
      go_region_law (first | (refine step_append_grows rfl (.tmp 25) (.tmp 27) 22 rfl 39 i0 (.agg #[.string ⟨#[]⟩, .string ⟨#[]⟩]) 2 32 Try.underlying22 hi0 hz0 hz1 hz2 rfl (by decide) (some ad) k k (flat (l.take k)) (by simp [Act.eval, Act.put]) (by simp) o1.out (o2.out _) ⟨w1.heap.size, 0, none⟩ 1 1 [.string t0, .string t1] (by simp [Act.eval, Act.put]) rfl (o3.out _) (by simp [Value.oneCell']) (by omega) (by unfold maxLen; omega) (by omega) ?_; intro v1 w2 ho hg; have HO := Aside0.mk (own_weaken ho (hbw.out _).size); have HB2 := Aside0.mk (Below.grown (hbw.out _) hg (hbw.out _).size (fun k_ e_ => by simp at e_)); have HC2 := Aside0.mk (Kd.C_below HR.out (Below.grown (hbw1.out _) hg (hbw1.out _).size (fun k_ e_ => by simp at e_))); clear ho hg) | (obtain ⟨g1, cp1, hv1, hcp1⟩ := own_form HO.out (by omega); subst hv1; refine step_append_zero rfl (.tmp 28) (.tmp 31) 22 rfl 39 i0 Try.underlying22 hi0 (some ⟨g1, 0, none⟩) (k + 1) cp1 hcp1 (by simp [Act.eval, Act.put]) (.slice B 0 (c0 - k)) (by simp [Act.eval, Act.put]) (src_zero _ _ _ _) ?_))
      go_wp2
      go_ret
      refine ⟨_, rfl, ?_, HB2.out⟩
      rw [HI.out]
      refine R_flat ?_ ?_ (n := k + 1)
      · simp; omega
      · have := HO.out
        rw [flat_app, flat_app, List.drop_of_length_le (by omega), show flat [] = [] from rfl, List.append_nil]
        exact this
set_option maxHeartbeats 4000000 in
set_option maxRecDepth 1000000 in
theorem insert_nil (c0 : Nat) (l : List S39) (t0 t1 : ByteArray) (w : World) (hl : l.length ≤ 0) :
    Calls Try.prog 25 #[.slice none l.length c0, .agg #[.string t0, .string t1]] w fun e w' => ∃ v0_ : Value, e = .returned (v0_) ∧ Kd.R k39 39 w' w.heap.size (fun _ => True) v0_ [⟨t0, t1⟩] ∧ Below w.heap.size w w' := by
  have hu39 := Try.underlying39
  obtain ⟨i0, hi0, hz0, hz1, hz2⟩ := info_parts info39
  go_enter Try.func25, Try.ntmps25
  go_wp2
  refine with_world (P := fun x => Code.wp _ _ _ _ x) _ ?_
  intro w1 hw
  have BK0 : w1.heap[w.heap.size]? = some (.cells #[.string t0, .string t1] 39 (0, 0)) := by rw [hw]; exact blk_new _ _
  have HB0 : Below w.heap.size w w1 := by rw [hw]; exact below_alloc (Below.refl _ _) _
  clear hw
  have b0 := (blk_cell BK0 0).trans rfl
  have b1 := (blk_cell BK0 1).trans rfl
  have BK := Aside0.mk BK0
  have HB := Aside0.mk HB0
  clear BK0 HB0
  go_loopw [5, 6, 7, 8, 9, 10, 11, 12, 13, 14, 15, 16, 17, 18, 19, 20, 21] (fun i _ _ _ _ _ _ _ _ _ _ _ _ _ _ _ _ w' => i = .int .i64 0 ∧ Drawn0 w1 w') (fun i _ _ _ _ _ _ _ _ _ _ _ _ _ _ _ _ _ => 0)
  case atStart => exact ⟨rfl, Drawn0.refl _⟩
  case round =>
    obtain ⟨rfl, ⟨n, rfl⟩⟩ := hrel
    have d1 : decide ((0 : Int) < (l.length : Int)) = false := decide_eq_false (by omega)
    have d2 : decide (0 < l.length) = false := decide_eq_false (by omega)
    have d3 : (l.length : Int) ≤ 0 := by omega
    have d4 : (0 : Int) ≤ (l.length : Int) := by omega
    have o3 := Aside0.mk (fun (m : Nat) => show ∀ j u, [Value.string t0, Value.string t1][j]? = some u → ((w1.drewN m).alloc (.cells #[.string t0, .string t1] 39)).cell? ((⟨w1.heap.size, 0, none⟩ : Addr).add j) = some u from fun j u hu => by
      have hh : ((w1.drewN m).alloc (.cells #[.string t0, .string t1] 39)).heap[w1.heap.size]? = some (.cells #[.string t0, .string t1] 39 (0, 0)) := blk_new (w1.drewN m) _
      have := blk_cell hh j
      rw [show (⟨w1.heap.size, 0, none⟩ : Addr).add j = ⟨w1.heap.size, j, none⟩ by simp [Addr.add, eq_comm]]
      rw [this]; simpa using hu)
    have hbw := Aside0.mk (fun (m : Nat) => show Below w.heap.size w ((w1.drewN m).alloc (.cells #[.string t0, .string t1] 39)) from HB.out.trans ((below_alloc (pw_below_drewN (Below.refl w1.heap.size w1) m) _).mono HB.out.size))
    have hbw1 := Aside0.mk (fun (m : Nat) => show Below w1.heap.size w1 ((w1.drewN m).alloc (.cells #[.string t0, .string t1] 39)) from below_alloc (pw_below_drewN (Below.refl w1.heap.size w1) m) _)
    go_wp2
    go_quiet (fail)
    go_wp2
    go_region_law (first | (refine step_append_grows rfl (.tmp 25) (.tmp 27) 22 rfl 39 i0 (.agg #[.string ⟨#[]⟩, .string ⟨#[]⟩]) 2 32 Try.underlying22 hi0 hz0 hz1 hz2 rfl (by decide) none 0 0 [] (by simp [Act.eval, Act.put]) (fun _ => ⟨rfl, rfl⟩) rfl (fun b e => by cases e) ⟨w1.heap.size, 0, none⟩ 1 1 [.string t0, .string t1] (by simp [Act.eval, Act.put]) rfl (o3.out _) (by simp [Value.oneCell']) (by omega) (by unfold maxLen; omega) (by omega) ?_; intro v1 w2 ho hg; have HO := Aside0.mk (own_weaken ho (hbw.out _).size); have HB2 := Aside0.mk (Below.grown (hbw.out _) hg (hbw.out _).size (fun k_ e_ => by simp at e_)); clear ho hg) | (obtain ⟨g1, cp1, hv1, hcp1⟩ := own_form HO.out (by omega); subst hv1; refine step_append_zero rfl (.tmp 28) (.tmp 31) 22 rfl 39 i0 Try.underlying22 hi0 (some ⟨g1, 0, none⟩) 1 cp1 hcp1 (by simp [Act.eval, Act.put]) (.slice none 0 c0) (by simp [Act.eval, Act.put]; try omega) (src_zero _ _ _ _) ?_))
    go_wp2
    go_ret
    exact ⟨_, rfl, R_flat rfl HO.out, HB2.out⟩
theorem dims_insert.calls (A0 : Option Addr) (c0 : Nat) (l0 : List S39) (a1_0 : ByteArray) (a1_1 : ByteArray) (r : List S39) (w : World) (hr0 : Kd.C k39 w A0 l0.length l0) (hc0 : l0.length ≤ c0) (h : dims_insert.f l0 a1_0 a1_1 = some r) :
    Calls Try.prog 25 #[.slice A0 l0.length c0, .agg #[.string a1_0, .string a1_1]] w fun e w' => ∃ v0_ : Value, e = .returned (v0_) ∧ Kd.R k39 39 w' w.heap.size (fun _ => True) v0_ r ∧ Below w.heap.size w w' := by
  unfold dims_insert.f at h
  by_cases hl : l0.length ≤ 1000000
  case neg => rw [if_neg hl] at h; simp at h
  rw [if_pos hl] at h
  obtain rfl := Option.some.inj h
  cases A0 with
  | some ad => exact insert_walk ad c0 l0 a1_0 a1_1 w hr0 hc0 hl
  | none =>
    have h0 : l0.length ≤ 0 := by
      rcases Nat.eq_zero_or_pos l0.length with e | e
      · omega
      · obtain ⟨ad, e', _⟩ := hr0.2.2 e
        cases e'
    obtain rfl : l0 = [] := List.length_eq_zero_iff.mp (by omega)
    exact insert_nil c0 [] a1_0 a1_1 w h0
end Go.Proofs.Ytbljhfdmimmblaa.P
