/- The contract of interco.pairs: the walk. -/
import Derived.Test.YtmflggbpiadkjaaHandPrp
import Derived.Maps.RangeRun
import Derived.Laws.IdiomRangeMap
import Derived.Deep.RegionLaw
import Derived.Deep.AppendLies
import Derived.RegionTactic
namespace Go.Proofs.Ytmflggbpiadkjaa.P
open Go.RowKit Go.Proofs.YtmflggbpiadkjaaW.PrintWords Go.Proofs.YtmflggbpiadkjaaW.PrintLast Go.Proofs.YtmflggbpiadkjaaW.PrintMore Go.Maps Go.ChangeShapes Go.WideShapes Go.WideMaps
open Go.ChangeMaps (setBlock)
set_option linter.unusedVariables false
set_option linter.unusedSimpArgs false
theorem one_cells (w : World) (x : Value) (t : TypeId) (b : Nat) {W1 : World} (hb : b < w.heap.size) (h : ∀ (p : Addr) (u : Value), p.block ≠ b → (w.alloc (.cells #[x] t)).cell? p = some u → W1.cell? p = some u) : ∀ j u, [x][j]? = some u → W1.cell? ((⟨w.heap.size, 0, none⟩ : Addr).add j) = some u := by
  intro j u hj
  have h1 := cell_one_new w x t j u hj
  refine h _ _ ?_ h1
  have e : ((⟨w.heap.size, 0, none⟩ : Addr).add j).block = w.heap.size := by unfold Addr.add; split <;> rfl
  omega
/-- A row of whole numbers, as the print's words have it. -/
theorem R_ints {w : World} {base : Nat} {v : Value} {xs : List Int} (h : w.ownsRow base 3 1 v xs.length (xs.map (Value.int .i64))) : Kd.R (Kd.int .i64) 3 w base (fun _ => True) v xs := by
  refine ⟨fun _ _ => trivial, xs.map (Value.int .i64), h, ?_⟩
  refine ⟨by rw [List.length_map]; exact (Nat.mul_one _).symm, fun j p hj => ?_⟩
  have hlt : j < xs.length := (List.getElem?_eq_some_iff.1 hj).1
  have hp : xs[j] = p := by rw [List.getElem?_eq_getElem hlt] at hj; exact Option.some.inj hj
  change (Kd.int .i64).M w base _ p (List.take 1 (List.drop (j * 1) (xs.map (Value.int .i64))))
  rw [Nat.mul_one, ← List.map_drop, List.drop_eq_getElem_cons hlt, hp]
  exact rfl
/-- How far a range over a map has come. -/
def iterN (w : World) (r : Nat) : Nat := match w.heap[r]? with
  | some (.mapIter _ _ seen _) => seen.size
  | _ => 0
theorem iterN_eq {w : World} {r s c : Nat} {m : Option Nat} {seen : Array Nat} (h : w.heap[r]? = some (.mapIter m s seen c)) : iterN w r = seen.size := by unfold iterN; rw [h]
/-- The pairs that have come, and what they leave. -/
structure Come (G : List (K2 × List Int)) (seen : Array Nat) (out : List S89) (over : Bool) : Prop where
  nodup : seen.toList.Nodup
  lt : ∀ j ∈ seen.toList, j < G.length
  srt : SS (out.map pk)
  mem : ∀ p, p ∈ out ↔ ∃ (j : Nat) (q : K2 × List Int), j ∈ seen.toList ∧ G[j]? = some q ∧ p = pairOf q
  ov : over = true ↔ ∃ (j : Nat) (q : K2 × List Int), j ∈ seen.toList ∧ G[j]? = some q ∧ fitB q.2.sum = false
  len : out.length ≤ seen.size
theorem Come.none (G : List (K2 × List Int)) : Come G #[] [] false :=
  ⟨List.nodup_nil, fun j hj => by simp at hj, List.Pairwise.nil, fun p => by simp, by simp, Nat.le_refl _⟩
theorem nodup_le : ∀ (n : Nat) (l : List Nat), l.Nodup → (∀ j ∈ l, j < n) → l.length ≤ n
  | 0, l, _, h => by
    cases l with
    | nil => exact Nat.le_refl _
    | cons a r => exact absurd (h a (by simp)) (by omega)
  | n + 1, l, hn, h => by
    have h1 := nodup_le n (l.erase n) (hn.erase n) (fun j hj => by
      have h2 := (hn.mem_erase_iff).1 hj
      have := h j h2.2
      have h3 := h2.1
      omega)
    rw [List.length_erase] at h1
    split at h1 <;> omega
theorem Come.size {G : List (K2 × List Int)} {seen : Array Nat} {out : List S89} {over : Bool} (h : Come G seen out over) : seen.size ≤ G.length := by
  have h1 : seen.toList.Nodup := h.nodup
  have h3 := nodup_le G.length _ h1 h.lt
  simpa using h3
theorem Come.new {G : List (K2 × List Int)} {seen : Array Nat} {out : List S89} {over : Bool} (h : Come G seen out over) (hd : (G.map (·.1)).Nodup) {j : Nat} {q : K2 × List Int} (hq : G[j]? = some q) (hj : j ∉ seen.toList) : ∀ x ∈ out, pk x ≠ pk (pairOf q) := by
  intro x hx e
  obtain ⟨i, q', hi, hq', rfl⟩ := (h.mem x).1 hx
  have e1 : q'.1 = q.1 := k2S_inj e
  have hil := (List.getElem?_eq_some_iff.1 hq').1
  have hjl := (List.getElem?_eq_some_iff.1 hq).1
  have : i = j := by
    have h1 : (G.map (·.1))[i]'(by simpa using hil) = (G.map (·.1))[j]'(by simpa using hjl) := by
      rw [List.getElem_map, List.getElem_map]
      rw [List.getElem?_eq_getElem hil] at hq'
      rw [List.getElem?_eq_getElem hjl] at hq
      rw [Option.some.inj hq', Option.some.inj hq]
      exact e1
    exact (List.getElem_inj hd).1 h1
  exact hj (this ▸ hi)
theorem Come.step {G : List (K2 × List Int)} {seen : Array Nat} {out out' : List S89} {over : Bool} (h : Come G seen out over) {j : Nat} {q : K2 × List Int} (hq : G[j]? = some q) (hj : j ∉ seen.toList) (hs : SS (out'.map pk)) (hm : ∀ x, x ∈ out' ↔ x = pairOf q ∨ x ∈ out) (hl : out'.length ≤ out.length + 1) :
    Come G (seen.push j) out' (over || !fitB q.2.sum) := by
  refine ⟨?_, fun i hi => ?_, hs, fun p => ?_, ?_, by have := h.len; rw [Array.size_push]; omega⟩
  · rw [Array.toList_push]
    exact List.nodup_append.2 ⟨h.nodup, by simp, fun a ha b hb e => by
      simp only [List.mem_singleton] at hb
      subst hb; subst e
      exact hj ha⟩
  · rw [Array.toList_push, List.mem_append, List.mem_singleton] at hi
    rcases hi with hi | rfl
    · exact h.lt i hi
    · exact (List.getElem?_eq_some_iff.1 hq).1
  · rw [hm, h.mem, Array.toList_push]
    constructor
    · rintro (rfl | ⟨i, q', hi, hq', rfl⟩)
      · exact ⟨j, q, by simp, hq, rfl⟩
      · exact ⟨i, q', by simp [hi], hq', rfl⟩
    · rintro ⟨i, q', hi, hq', rfl⟩
      rcases List.mem_append.1 hi with hi | hi
      · exact .inr ⟨i, q', hi, hq', rfl⟩
      · simp only [List.mem_singleton] at hi
        subst hi
        obtain rfl : q = q' := Option.some.inj (hq.symm.trans hq')
        exact .inl rfl
  · rw [Bool.or_eq_true, h.ov, Array.toList_push]
    constructor
    · rintro (⟨i, q', hi, hq', e⟩ | e)
      · exact ⟨i, q', by simp [hi], hq', e⟩
      · exact ⟨j, q, by simp, hq, by simpa using e⟩
    · rintro ⟨i, q', hi, hq', e⟩
      rcases List.mem_append.1 hi with hi | hi
      · exact .inl ⟨i, q', hi, hq', e⟩
      · simp only [List.mem_singleton] at hi
        subst hi
        obtain rfl : q = q' := Option.some.inj (hq.symm.trans hq')
        exact .inr (by simp [e])
theorem addG_le (k : K2) (x : Int) : ∀ G : List (K2 × List Int), (addG k x G).length ≤ G.length + 1
  | [] => Nat.le_refl _
  | q :: r => by
    unfold addG
    split
    · simp
    · have := addG_le k x r
      simp only [List.length_cons]
      omega
theorem grpOf_le (l : List S34) : (grpOf l).length ≤ l.length := by
  have gen : ∀ (l : List S34) (G : List (K2 × List Int)), (l.foldl (fun G c => addG (cpl c) c.f2 G) G).length ≤ G.length + l.length := by
    intro l
    induction l with
    | nil => intro G; exact Nat.le_refl _
    | cons c r ih =>
      intro G
      have h1 := ih (addG (cpl c) c.f2 G)
      have h2 := addG_le (cpl c) c.f2 G
      simp only [List.foldl_cons, List.length_cons]
      omega
  simpa [grpOf] using gen l []
/-- A slice of pairs, over a world in which the iterator alone has turned. -/
theorem R_iter {W W' : World} {r base s c : Nat} {m : Option Nat} {sn : Array Nat} {v : Value} {xs : List S89} (h : Kd.R k89 89 W base (fun _ => True) v xs) (hr : W.heap[r]? = some (.mapIter m s sn c)) (hk : ∀ x, x < W.heap.size → x ≠ r → W'.heap[x]? = W.heap[x]?) : Kd.R k89 89 W' base (fun _ => True) v xs := by
  have h1 := Kd.R_mono (Kd.R_tight rfl h) (ok' := fun x => v.ownBlock = some x) (fun x hx => hx.symm)
  exact Kd.R_mono (Kd.R_step h1 (fun x hx hlt => hk x hlt (fun e => by
    subst e
    obtain ⟨cs, hc⟩ := Kd.R_typed h _ hx
    rw [hr] at hc
    cases hc))) (fun _ _ => trivial)
/-- The round's step: the iterator's block alone turns. -/
theorem next_round {w : World} {r b : Nat} {gs : List (K2 × Value)} {G : List (K2 × List Int)} {seen : Array Nat} (hr : w.heap[r]? = some (.mapIter (some b) gs.length seen gs.length)) (hG : Grps w b gs G) :
    ((∀ j < G.length, j ∈ seen.toList) ∧ (Instr.next (.pointer (some ⟨r, 0, none⟩)) false 0).run Try.prog w = .ok (.tuple #[.bool false]) w) ∨
    ∃ (j : Nat) (ka kb : ByteArray) (v : Value) (q : K2 × List Int) (W1 : World), j ∉ seen.toList ∧ gs[j]? = some ((ka, kb), v) ∧ G[j]? = some q ∧ (Instr.next (.pointer (some ⟨r, 0, none⟩)) false 0).run Try.prog w = .ok (.tuple #[.bool true, .agg #[.string ka, .string kb], v]) W1 ∧
      (Instr.entry (.pointer (some ⟨r, 0, none⟩))).run Try.prog W1 = .ok (.tuple #[.agg #[.string ka, .string kb], v]) W1 ∧ W1.heap[r]? = some (.mapIter (some b) gs.length (seen.push j) gs.length) ∧ Grps W1 b gs G ∧ (∀ x, x < w.heap.size → x ≠ r → W1.heap[x]? = w.heap[x]?) ∧ w.heap.size ≤ W1.heap.size ∧ w.grownBy W1 (some r) := by
  have hold : ∀ x ∈ (esOf gs).toList, x.born < gs.length := fun x hx => by
    obtain ⟨j, p, hp, rfl⟩ := esOf_mem hx
    exact (List.getElem?_eq_some_iff.1 hp).1
  rcases run_next_at (P := Try.prog) w 0 r b gs.length gs.length seen (esOf gs) gs.length hr hG.map hold (Nat.le_refl _) with ⟨h0, hnx⟩ | ⟨e, he, w1, hw1, hnx⟩
  · left
    refine ⟨fun j hj => ?_, hnx⟩
    have hjl : j < gs.length := by rw [hG.len]; exact hj
    have hm : (⟨keyV gs[j].1.1 gs[j].1.2, gs[j].2, j⟩ : MapEntry) ∈ (esOf gs).toList := List.mem_of_getElem? (i := j) (by rw [esOf_get, List.getElem?_eq_getElem hjl]; rfl)
    have he : leftOf (esOf gs) seen = #[] := Array.eq_empty_of_size_eq_zero h0
    unfold leftOf at he
    rw [Array.filter_eq_empty_iff] at he
    have := he _ (by simpa using hm)
    simpa using this
  · right
    unfold leftOf at he
    have he2 : e ∈ (esOf gs).toList ∧ e.born ∉ seen.toList := by simpa using he
    obtain ⟨j, ⟨⟨ka, kb⟩, v⟩, hp, rfl⟩ := esOf_mem he2.1
    have hjl := (List.getElem?_eq_some_iff.1 hp).1
    obtain ⟨q, hq⟩ : ∃ q, G[j]? = some q := ⟨G[j]'(by have := hG.len; omega), List.getElem?_eq_getElem _⟩
    have hg0 : w.grownBy w1 none := by
      rcases hw1 with rfl | rfl
      · exact ⟨rfl, rfl, rfl, Nat.le_refl _, fun _ _ _ => rfl⟩
      · exact ⟨rfl, rfl, rfl, Nat.le_refl _, fun _ _ _ => rfl⟩
    have hr1 : w1.heap[r]? = some (.mapIter (some b) gs.length seen gs.length) := by rcases hw1 with rfl | rfl <;> exact hr
    have hrl : r < w1.heap.size := (Array.getElem?_eq_some_iff.1 hr1).1
    have hG1 : Grps w1 b gs G := hG.grown hg0
    have hrb : r ≠ b := fun e => by
      subst e
      rw [hG1.map] at hr1
      cases hr1
    have hg1 := grown_setBlock w1 r (.mapIter (some b) gs.length (seen.push j) gs.length)
    have hG2 : Grps (setBlock w1 r (.mapIter (some b) gs.length (seen.push j) gs.length)) b gs G := by
      refine ⟨(hg1.block b hG1.lt (fun e => hrb (Option.some.inj e).symm)).trans hG1.map, hG1.len, hG1.key, fun i p q' h1 h2 => ?_, hG1.apart, hG1.diff, hG1.siz⟩
      have hro := hG1.row i p q' h1 h2
      refine hro.kept hg1 ?_
      cases hv : p.2.ownBlock with
      | none => exact .inl rfl
      | some g =>
        right
        intro e
        have e := Option.some.inj e
        subst e
        have := Kd.R_typed (R_ints hro) g hv
        obtain ⟨cs, hc⟩ := this
        rw [hr1] at hc
        cases hc
    refine ⟨j, ka, kb, v, q, _, he2.2, hp, hq, hnx, ?_, heap_setBlock hrl _, hG2, fun x hx hne => ?_, ?_, ?_⟩
    · exact run_entry_at _ r b gs.length seen (esOf gs) gs.length _ (heap_setBlock hrl _) hG2.map he2.1 (esOf_born gs)
    · exact (hg1.block x (Nat.lt_of_lt_of_le hx hg0.size) (fun e => hne (Option.some.inj e))).trans (hg0.block x hx (by simp))
    · rw [size_setBlock]; exact hg0.size
    · exact World.grownBy.trans ⟨hg0.os, hg0.tape, hg0.output, hg0.size, fun i hi _ => hg0.block i hi (by simp)⟩ hg1
set_option maxHeartbeats 4000000 in
set_option maxRecDepth 100000 in
theorem pairs_calls (A : Option Addr) (c : Nat) (l : List S34) (w : World) (h : Kd.C k34 w A l.length l) (hc : l.length ≤ c) (hl : l.length ≤ 1000000) (hi : ∀ x ∈ l, i64ok x.f2) (hsz : ∀ x ∈ l, x.f0.f0.size ≤ maxLen ∧ x.f0.f3.size ≤ maxLen) :
    Calls Try.prog 75 #[.slice A l.length c] w fun e w' => ∃ v, e = .returned (.tuple #[v, .int .i64 (prK l).2]) ∧ Kd.R k89 89 w' w.heap.size (fun _ => True) v (prK l).1 ∧ Below w.heap.size w w' := by
  have HC := Aside0.mk h
  have HI := Aside0.mk hi
  have HSZ := Aside0.mk hsz
  obtain ⟨i0, hi0, hz0, hz1, hz2⟩ := info_parts info3
  clear h hi hsz
  go_enter Try.func75, Try.ntmps75
  have hmm := @run_makeMap Try.prog
  go_upto_region 2 with (fail)
  clear hmm
  refine with_world (P := fun x => Code.wp _ _ _ _ x) _ ?_
  intro w1 hw1
  have HM1 := Aside0.mk (show Grps w1 w.heap.size [] (grpOf (l.take 0)) from by
    rw [hw1]
    exact ⟨blk_new _ _, rfl, fun j p q h1 _ => by simp at h1, fun j p q h1 _ => by simp at h1, fun i j p q _ h1 _ => by simp at h1, fun i j p q h1 _ => by simp at h1, fun p hp => by simp at hp⟩)
  have HB1 := Aside0.mk (show Below w.heap.size w w1 from by rw [hw1]; exact below_alloc (Below.refl _ _) _)
  clear hw1
  obtain ⟨b, hb⟩ : ∃ b, w.heap.size = b := ⟨_, rfl⟩
  have HBS := Aside0.mk hb
  rw [hb] at HM1 HB1 ⊢
  clear hb
  go_wp2
  go_loopw [6, 7, 17, 18, 19, 20, 21, 22, 23, 24, 25, 26, 27, 28, 29, 30, 31, 32, 33] (fun _ _ v17 _ _ _ _ _ _ _ _ _ _ _ _ _ _ _ _ wr => ∃ (k : Nat) (gs : List (K2 × Value)), k ≤ l.length ∧ v17 = .int .i64 k ∧ Aside0 (Grps wr b gs (grpOf (l.take k))) ∧ Aside0 (Below b w wr)) (fun _ _ v17 _ _ _ _ _ _ _ _ _ _ _ _ _ _ _ _ _ => l.length - (intOf v17).toNat)
  case atStart => exact ⟨0, [], Nat.zero_le _, rfl, HM1, HB1⟩
  case round =>
    clear HM1 HB1
    obtain ⟨k, gs, hk, rfl, HM, HB⟩ := hrel
    by_cases hlt : k < l.length
    · have hbw := HBS.out
      have d1 : decide ((k : Int) < (l.length : Int)) = true := decide_eq_true (by omega)
      have d2 : decide (k < l.length) = true := decide_eq_true hlt
      have p0 : (0 : Int) ≤ (k : Int) := by omega
      have p1 : (k : Int) < (l.length : Int) := by omega
      obtain ⟨ad, e, q0, q1, q2, q3, q4, q5, q6⟩ := at_T34 (Kd.C_below HC.out (by rw [HBS.out]; exact HB.out)) (k : Int) (by omega) (by omega)
      rw [Int.toNat_natCast] at q0 q1 q2 q3 q4 q5 q6
      have hx0 : rd_T34 l (k : Int) = l[k] := by simp [rd_T34, hlt]
      obtain ⟨x, hx⟩ : ∃ x, rd_T34 l (k : Int) = x := ⟨_, rfl⟩
      rw [hx] at q0 q1 q2 q3 q4 q5 q6 hx0
      have HSX := Aside0.mk (HSZ.out x (by rw [hx0]; exact List.getElem_mem hlt))
      have HTK := Aside0.mk (show grpOf (l.take (k + 1)) = addG (cpl x) x.f2 (grpOf (l.take k)) from by rw [hx0]; exact grpOf_take l hlt)
      have HLN := Aside0.mk (show ∀ q ∈ grpOf (l.take k), q.2.length ≤ 1000000 from fun q hq => by
        have := (gok (l.take k)).len q hq
        rw [List.length_map, List.length_take] at this
        omega)
      subst e
      clear hx hx0 hbw
      go_upto_region 5 with (fail)
      refine with_world (P := fun x => Code.wp _ _ _ _ x) _ ?_
      intro w2 hw2
      obtain ⟨g, hg⟩ : ∃ g, wr.heap.size = g := ⟨_, rfl⟩
      have BX := Aside0.mk (show w2.heap[g]? = some (.cells #[.string x.f0.f0, .string x.f0.f1, .string x.f0.f2, .string x.f0.f3, .string x.f0.f4, .int .i64 x.f1, .int .i64 x.f2] 34 (0, 0)) from by rw [hw2, ← hg]; exact blk_new wr _)
      have HB2 := Aside0.mk (show Below b w w2 from by have h9 := HB.out; rw [← HBS.out] at h9 ⊢; rw [hw2]; exact below_alloc h9 _)
      have HM2 := Aside0.mk (show Grps w2 b gs (grpOf (l.take k)) from by rw [hw2]; exact HM.out.grown (grown_alloc _ _ _))
      rw [hg]
      clear hw2 hg q0 q1 q2 q3 q4 q5 q6 HB HM
      have c0 : w2.cell? ⟨g, 0, none⟩ = some (.string x.f0.f0) := (blk_cell BX.out 0).trans rfl
      have c1 : w2.cell? ⟨g, 1, none⟩ = some (.string x.f0.f1) := (blk_cell BX.out 1).trans rfl
      have c2 : w2.cell? ⟨g, 2, none⟩ = some (.string x.f0.f2) := (blk_cell BX.out 2).trans rfl
      have c3 : w2.cell? ⟨g, 3, none⟩ = some (.string x.f0.f3) := (blk_cell BX.out 3).trans rfl
      have c4 : w2.cell? ⟨g, 4, none⟩ = some (.string x.f0.f4) := (blk_cell BX.out 4).trans rfl
      have HCP := Aside0.mk (couple_pure x)
      have HSC := Aside0.mk (show (cpl x).1.size ≤ maxLen ∧ (cpl x).2.size ≤ maxLen from by
        unfold cpl
        split
        · exact HSX.out
        · exact ⟨HSX.out.2, HSX.out.1⟩)
      obtain ⟨cp, hcp⟩ : ∃ cp, cpl x = cp := ⟨_, rfl⟩
      rw [hcp] at HCP HSC HTK
      clear hcp
      obtain ⟨ka, kb⟩ := cp
      go_upto_region 6 with (first | (go_at_call 87; (refine (interco_coupleOf.calls x.f0.f0 x.f0.f1 x.f0.f2 x.f0.f3 x.f0.f4 ka kb _ HCP.out).mono ?_); rintro e_ w3 ⟨rfl, hb_⟩; have HB3 := Aside0.mk hb_; clear hb_))
      refine with_world (P := fun x => Code.wp _ _ _ _ x) _ ?_
      intro w4 hw4
      obtain ⟨g2, hg2⟩ : ∃ g2, w3.heap.size = g2 := ⟨_, rfl⟩
      have hlt4 : Below w2.heap.size w2 w4 := by rw [hw4]; exact below_alloc HB3.out _
      have BX4 := Aside0.mk (blk_below BX.out hlt4)
      have BK := Aside0.mk (show w4.heap[g2]? = some (.cells #[.string ka, .string kb] 103 (0, 0)) from by rw [hw4, ← hg2]; exact blk_new w3 _)
      have HB4 := Aside0.mk (below_then HB2.out (by have := HB2.out.size; have := HBS.out; omega) hlt4)
      have HM4 := Aside0.mk (HM2.out.below hlt4)
      rw [hg2]
      clear hw4 hg2 hlt4 c0 c1 c2 c3 c4 HB2 HM2 BX HB3
      have c6 : w4.cell? ⟨g, 6, none⟩ = some (.int .i64 x.f2) := (blk_cell BX4.out 6).trans rfl
      have e0 : w4.cell? ⟨g2, 0, none⟩ = some (.string ka) := (blk_cell BK.out 0).trans rfl
      have e1 : w4.cell? ⟨g2, 1, none⟩ = some (.string kb) := (blk_cell BK.out 1).trans rfl
      obtain ⟨v, st, W1, xs, hme, hrow, hxl, hbs, hcell, hB1, hend⟩ := grp_step (HM4.out.grown (grown_alloc w4 (.cells #[.int .i64 x.f2] 3) none)) HSC.out.1 HSC.out.2 x.f2 HLN.out
      unfold keyV at hme
      have HROW := Aside0.mk hrow
      have HXL := Aside0.mk hxl
      have HBSZ := Aside0.mk hbs
      have HCL := Aside0.mk (one_cells w4 (.int .i64 x.f2) 3 b HM4.out.lt hcell)
      have HEND := Aside0.mk hend
      have HBW := Aside0.mk hB1
      clear hrow hxl hbs hcell hB1 hend
      go_wp2_with (first | ((with_reducible refine gate_builtin (b := .append) (xs := #[.tmp 26, .tmp 29]) rfl ?_); at_builtin; refine wpList_append_own_at W1 rfl (.tmp 26) (.tmp 29) 67 rfl (b + 1) 3 i0 (.int .i64 0) 1 8 Try.underlying67 hi0 hz0 hz1 hz2 rfl (by decide) v xs.length (xs.map (Value.int .i64)) (by first | rfl | simp [Act.eval, Act.put]) HROW.out ⟨w4.heap.size, 0, none⟩ 1 1 [.int .i64 x.f2] (by first | rfl | simp [Act.eval, Act.put]) rfl HCL.out (by simp [Value.oneCell']) (by have := HXL.out; unfold maxLen; omega) (by have := HXL.out; omega) HBSZ.out ?_; intro v2 W2 ho_ hg_ _ hat_; obtain ⟨W3, gs', hes0, hG_, hB_⟩ := HEND.out v2 W2 ho_ hg_ hat_; have hes : (Instr.entryStore 101 (.map (some b)) (.int .i64 (st : Int)) v2).run Try.prog W2 = .ok () W3 := hes0; clear hes0; have HG3 := Aside0.mk hG_; have HB5 := Aside0.mk hB_; clear ho_ hg_ hat_ hG_ hB_))
      go_roundw
      case rel =>
        refine ⟨k + 1, gs', by omega, by go_num, ⟨?_⟩, ⟨?_⟩⟩
        · rw [HTK.out]; exact HG3.out
        · have h9 := HB4.out
          have h8 := HB5.out
          have e9 := HBS.out
          refine ⟨h8.os.trans h9.os, h8.tape.trans h9.tape, h8.output.trans h9.output, Nat.le_trans h9.size (Nat.le_trans (below_alloc (Below.refl w4.heap.size w4) _).size h8.size), fun i hi => ?_⟩
          have hi4 : i < w4.heap.size := Nat.lt_of_lt_of_le (by omega) h9.size
          exact (h8.block i hi).trans ((Below.heap_alloc w4 _ i hi4).trans (h9.block i hi))
      case measure => simp [intOf]; omega
    · obtain rfl : k = l.length := by omega
      have d1 : decide ((l.length : Int) < (l.length : Int)) = false := decide_eq_false (by omega)
      have HM5 := Aside0.mk (show Grps wr b gs (grpOf l) from by have h9 := HM.out; rw [List.take_length] at h9; exact h9)
      clear HM
      have hrg := run_range_map (P := Try.prog) wr 101 103 67 b _ _ Try.underlying101 HM5.out.map
      go_upto_region 11 with (fail)
      clear hrg
      refine with_world (P := fun x => Code.wp _ _ _ _ x) _ ?_
      intro w6 hw6
      obtain ⟨r, hr⟩ : ∃ r, wr.heap.size = r := ⟨_, rfl⟩
      have HR6 := Aside0.mk (show w6.heap[r]? = some (.mapIter (some b) gs.length #[] gs.length) from by rw [hw6, ← hr]; exact blk_new wr _)
      have HM6 := Aside0.mk (show Grps w6 b gs (grpOf l) from by rw [hw6]; exact HM5.out.grown (grown_alloc _ _ _))
      have HB6 := Aside0.mk (show Below b w w6 from by have h9 := HB.out; rw [← HBS.out] at h9 ⊢; rw [hw6]; exact below_alloc h9 _)
      have HRB := Aside0.mk (show b ≤ r from by rw [← hr]; have := HB.out.size; have := HBS.out; omega)
      rw [hr]
      clear hw6 hr HB HM5
      have HNG := Aside0.mk (show (grpOf l).length ≤ 1000000 from by
        have h9 : ∀ (l : List S34), (grpOf l).length ≤ l.length := grpOf_le
        have := h9 l
        omega)
      go_loopw [8, 9, 10, 11, 12, 13, 36, 37, 38, 39, 40, 41, 42, 43, 44, 45, 46, 47, 48, 49, 50, 51, 52, 53, 54, 55, 56, 57, 58, 59, 60, 61, 62, 63, 64, 65, 66] (fun v8 v9 _ _ _ _ _ _ _ _ _ _ _ _ _ _ _ _ _ _ _ _ _ _ _ _ _ _ _ _ _ _ _ _ _ _ _ wx => ∃ (seen : Array Nat) (out : List S89) (over : Bool), v9 = .bool over ∧ Aside0 (wx.heap[r]? = some (.mapIter (some b) gs.length seen gs.length)) ∧ Aside0 (Grps wx b gs (grpOf l)) ∧ Aside0 (Kd.R k89 89 wx b (fun _ => True) v8 out) ∧ Aside0 (Below b w wx) ∧ Aside0 (Come (grpOf l) seen out over)) (fun _ _ _ _ _ _ _ _ _ _ _ _ _ _ _ _ _ _ _ _ _ _ _ _ _ _ _ _ _ _ _ _ _ _ _ _ _ wx => (grpOf l).length - iterN wx r)
      case atStart => exact ⟨#[], [], false, rfl, HR6, HM6, ⟨Kd.R_nil _ _ _ _ _⟩, HB6, ⟨Come.none _⟩⟩
      case round =>
        clear HR6 HM6 HB6
        rename World => wo
        obtain ⟨seen, out, over, rfl, HR, HM, HV, HB, HCM⟩ := hrel
        obtain ⟨A8, c8, e8⟩ := Kd.R_slice HV.out
        subst e8
        rcases next_round HR.out HM.out with ⟨hall, hnx⟩ | ⟨j, ka, kb, v, q, W1, hj, hgj, hq, hnx, hen, hR1, hG1, hkeep, hsz1, hgr⟩
        · have he := pr_end l out over HCM.out.srt (fun p => by
            rw [HCM.out.mem]
            constructor
            · rintro ⟨j, q, _, hq, rfl⟩
              exact ⟨q, List.mem_of_getElem? hq, rfl⟩
            · rintro ⟨q, hq, rfl⟩
              obtain ⟨j, hj⟩ := List.mem_iff_getElem?.1 hq
              exact ⟨j, q, hall j (List.getElem?_eq_some_iff.1 hj).1, hj, rfl⟩) (by
            rw [HCM.out.ov]
            constructor
            · rintro ⟨j, q, _, hq, e⟩
              exact ⟨q, List.mem_of_getElem? hq, e⟩
            · rintro ⟨q, hq, e⟩
              obtain ⟨j, hj⟩ := List.mem_iff_getElem?.1 hq
              exact ⟨j, q, hall j (List.getElem?_eq_some_iff.1 hj).1, hj, e⟩)
          have HE := Aside0.mk he
          clear he hall
          cases over
          · go_wp2
            go_ret2
            have he := HE.out
            rw [if_neg (by decide)] at he
            rw [← he]
            exact ⟨_, rfl, by rw [HBS.out]; exact HV.out, by rw [HBS.out]; exact HB.out⟩
          · go_wp2
            go_ret2
            have he := HE.out
            first | rw [if_pos trivial] at he | rw [if_pos rfl] at he
            rw [← he]
            exact ⟨_, rfl, Kd.R_nil _ _ _ _ _, by rw [HBS.out]; exact HB.out⟩
        · obtain ⟨qk, xs⟩ := q
          have hkey : (ka, kb) = qk := hG1.key j _ _ hgj hq
          subst hkey
          have hrow := hG1.row j _ _ hgj hq
          have hRI := R_ints hrow
          obtain ⟨Av, cv, ev⟩ := Kd.R_slice hRI
          simp only at ev
          subst ev
          have HCV := Aside0.mk (Kd.R_reads' hRI).2.2
          have HCC := Aside0.mk (Kd.R_reads' hRI).2.1
          have hqm := List.mem_of_getElem? hq
          have hxl : xs.length ≤ 1000000 := by
            have := (gok l).len _ hqm
            rw [List.length_map] at this
            simp only at this
            omega
          have hxi : ∀ x ∈ xs, i64ok x := fun x hx => by
            obtain ⟨c1, hc1, e⟩ := (gok l).ints _ hqm x hx
            obtain ⟨c2, hc2, rfl⟩ := List.mem_map.1 hc1
            rw [e]
            exact HI.out c2 hc2
          obtain ⟨sm, hsm⟩ : ∃ sm, (if i64ok xs.sum then xs.sum else 0) = sm := ⟨_, rfl⟩
          have HSUM := Aside0.mk (show num_Sum.f xs = some (sm, decide (i64ok xs.sum)) from by
            unfold num_Sum.f
            rw [if_pos hxl, if_pos hxi, ← hsm]
            by_cases h9 : i64ok xs.sum
            · rw [if_pos h9, if_pos h9, decide_eq_true h9]
            · rw [if_neg h9, if_neg h9, decide_eq_false h9])
          obtain ⟨kr, kk, bb, hs8, hk8, hsrt, hmem⟩ := search_ok out (pairOf ((ka, kb), xs)) (by have := HCM.out.len; have := HCM.out.size; have := HNG.out; omega) HCM.out.srt (HCM.out.new (gok l).nodup hq hj)
          have hpo : pairOf ((ka, kb), xs) = ⟨ka, kb, sm⟩ := by rw [← hsm]; rfl
          have hcome0 := HCM.out.step hq hj hsrt hmem (by simp; omega)
          rw [hpo] at hs8 hcome0
          have HCOME := Aside0.mk hcome0
          have HS8 := Aside0.mk (show bin_search.f kr out ka kb sm = some ((kk : Int), bb) from hs8)
          have HK8 := Aside0.mk hk8
          have HSM := Aside0.mk hsm
          have HL8' := Aside0.mk (show out.length ≤ 1000000 from by have := HCM.out.len; have := HCM.out.size; have := HNG.out; omega)
          have HSZS := Aside0.mk (show seen.size < (grpOf l).length from by
            have h1 := HCM.out.size
            rcases Nat.lt_or_ge seen.size (grpOf l).length with h2 | h2
            · exact h2
            · exfalso
              have h3 := nodup_le (grpOf l).length (seen.toList ++ [j]) (List.nodup_append.2 ⟨HCM.out.nodup, by simp, fun a ha b hb e => by
                simp only [List.mem_singleton] at hb
                subst hb; subst e
                exact hj ha⟩) (fun i hi => by
                rcases List.mem_append.1 hi with hi | hi
                · exact HCM.out.lt i hi
                · simp only [List.mem_singleton] at hi
                  subst hi
                  exact (List.getElem?_eq_some_iff.1 hq).1)
              simp at h3
              omega)
          have HV1 := Aside0.mk (R_iter HV.out HR.out hkeep)
          have HB1 := Aside0.mk (show Below b w W1 from ⟨hgr.os.trans HB.out.os, hgr.tape.trans HB.out.tape, hgr.output.trans HB.out.output, Nat.le_trans HB.out.size hsz1, fun x hx => by
            have h9 := HBS.out
            have hxo : x < wo.heap.size := Nat.lt_of_lt_of_le (by omega) HB.out.size
            have hxr : x ≠ r := fun e => by have := HRB.out; omega
            exact (hkeep x hxo hxr).trans (HB.out.block x hx)⟩)
          have HR1 := Aside0.mk hR1
          have HG1 := Aside0.mk hG1
          clear hs8 hk8 hsrt hmem hpo hcome0 hsm hxl hxi hqm hrow hRI hkeep hsz1 hgr hR1 hG1 hgj hq hj
          go_upto_region 13 with (fail)
          clear hnx hen
          refine with_world (P := fun x => Code.wp _ _ _ _ x) _ ?_
          intro w2 hw2
          obtain ⟨g2, hg2⟩ : ∃ g2, W1.heap.size = g2 := ⟨_, rfl⟩
          have hlt2 : Below W1.heap.size W1 w2 := by rw [hw2]; exact below_alloc (Below.refl _ _) _
          have BK := Aside0.mk (show w2.heap[g2]? = some (.cells #[.string ka, .string kb] 103 (0, 0)) from by rw [hw2, ← hg2]; exact blk_new W1 _)
          have HR2 := Aside0.mk ((hlt2.block r (blk_lt HR1.out)).trans HR1.out)
          have HG2 := Aside0.mk (HG1.out.below hlt2)
          have HV2 := Aside0.mk (Kd.R_below HV1.out hlt2)
          have HB2 := Aside0.mk (below_then HB1.out (by have := HB1.out.size; have := HBS.out; omega) hlt2)
          have HCV2 := Aside0.mk (Kd.C_below HCV.out hlt2)
          rw [hg2]
          clear hw2 hg2 hlt2 HR1 HG1 HV1 HB1 HCV
          go_upto_region 14 with (first | (go_at_call 81; (refine (num_Sum.calls Av cv xs sm (decide (i64ok xs.sum)) _ HCV2.out HCC.out HSUM.out).mono ?_); rintro e_ w3 ⟨rfl, hdr_⟩; have HD := Aside0.mk hdr_.below; clear hdr_))
          have BK3 := Aside0.mk (blk_below BK.out HD.out)
          have HR3 := Aside0.mk ((HD.out.block r (blk_lt HR2.out)).trans HR2.out)
          have HG3 := Aside0.mk (HG2.out.below HD.out)
          have HV3 := Aside0.mk (Kd.R_below HV2.out HD.out)
          have HB3 := Aside0.mk (below_then HB2.out (by have := HB2.out.size; have := HBS.out; omega) HD.out)
          have HC8 := Aside0.mk (Kd.R_reads' HV3.out).2.2
          have HL8 := Aside0.mk (Kd.R_reads' HV3.out).2.1
          have HO8 := HL8'
          have e0 : w3.cell? ⟨g2, 0, none⟩ = some (.string ka) := (blk_cell BK3.out 0).trans rfl
          have e1 : w3.cell? ⟨g2, 1, none⟩ = some (.string kb) := (blk_cell BK3.out 1).trans rfl
          clear BK HR2 HG2 HV2 HB2 HCV2
          have hcome := HCOME.out
          cases over
          · by_cases hio : i64ok xs.sum
            · have hs9 : xs.sum = sm := by have := HSM.out; rw [if_pos hio] at this; exact this
              have d0 : decide (i64ok xs.sum) = true := decide_eq_true hio
              rw [d0]
              have HIO := Aside0.mk hio
              clear hio
              by_cases h1 : 1000000000000000 < sm
              · have d1 : decide (1000000000000000 < sm) = true := decide_eq_true h1
                have hov : (false || !fitB xs.sum) = true := by
                  rw [hs9]; unfold fitB; rw [decide_eq_false (show ¬ sm ≤ 1000000000000000 by omega), Bool.and_false]; rfl
                rw [hov] at hcome
                clear hs9 hov d0
                go_wp2_with (first | (go_at_call 88; (refine (insert_calls A8 c8 out ka kb sm kk kr bb _ HC8.out HL8.out HO8.out HK8.out HS8.out).mono ?_); rintro e_ w5 ⟨v5, rfl, hR5_, hB5_⟩; have HR5 := Aside0.mk hR5_; have HB5 := Aside0.mk hB5_; clear hR5_ hB5_))
                go_roundw
                case rel => exact ⟨seen.push j, out.take kk ++ [⟨ka, kb, sm⟩] ++ out.drop kk, true, rfl, ⟨(HB5.out.block r (blk_lt HR3.out)).trans HR3.out⟩, ⟨HG3.out.below HB5.out⟩, ⟨Kd.R_lower HR5.out (by have := HB3.out.size; have := HBS.out; omega)⟩, ⟨below_then HB3.out (by have := HB3.out.size; have := HBS.out; omega) HB5.out⟩, ⟨hcome⟩⟩
                case measure =>
                  rw [iterN_eq ((HB5.out.block r (blk_lt HR3.out)).trans HR3.out), iterN_eq HR.out, Array.size_push]
                  have := HSZS.out
                  omega
              · have d1 : decide (1000000000000000 < sm) = false := decide_eq_false h1
                by_cases h2 : sm < -1000000000000000
                · have d2 : decide (sm < -1000000000000000) = true := decide_eq_true h2
                  have hov : (false || !fitB xs.sum) = true := by
                    rw [hs9]; unfold fitB; rw [decide_eq_false (show ¬ -1000000000000000 ≤ sm by omega), Bool.false_and]; rfl
                  rw [hov] at hcome
                  clear hs9 hov d0
                  go_wp2_with (first | (go_at_call 88; (refine (insert_calls A8 c8 out ka kb sm kk kr bb _ HC8.out HL8.out HO8.out HK8.out HS8.out).mono ?_); rintro e_ w5 ⟨v5, rfl, hR5_, hB5_⟩; have HR5 := Aside0.mk hR5_; have HB5 := Aside0.mk hB5_; clear hR5_ hB5_))
                  go_roundw
                  case rel => exact ⟨seen.push j, out.take kk ++ [⟨ka, kb, sm⟩] ++ out.drop kk, true, rfl, ⟨(HB5.out.block r (blk_lt HR3.out)).trans HR3.out⟩, ⟨HG3.out.below HB5.out⟩, ⟨Kd.R_lower HR5.out (by have := HB3.out.size; have := HBS.out; omega)⟩, ⟨below_then HB3.out (by have := HB3.out.size; have := HBS.out; omega) HB5.out⟩, ⟨hcome⟩⟩
                  case measure =>
                    rw [iterN_eq ((HB5.out.block r (blk_lt HR3.out)).trans HR3.out), iterN_eq HR.out, Array.size_push]
                    have := HSZS.out
                    omega
                · have d2 : decide (sm < -1000000000000000) = false := decide_eq_false h2
                  have hov : (false || !fitB xs.sum) = false := by
                    rw [hs9]; unfold fitB; rw [decide_eq_true (show -1000000000000000 ≤ sm by omega), decide_eq_true (show sm ≤ 1000000000000000 by omega)]; rfl
                  rw [hov] at hcome
                  clear hs9 hov d0
                  go_wp2_with (first | (go_at_call 88; (refine (insert_calls A8 c8 out ka kb sm kk kr bb _ HC8.out HL8.out HO8.out HK8.out HS8.out).mono ?_); rintro e_ w5 ⟨v5, rfl, hR5_, hB5_⟩; have HR5 := Aside0.mk hR5_; have HB5 := Aside0.mk hB5_; clear hR5_ hB5_))
                  go_roundw
                  case rel => exact ⟨seen.push j, out.take kk ++ [⟨ka, kb, sm⟩] ++ out.drop kk, false, rfl, ⟨(HB5.out.block r (blk_lt HR3.out)).trans HR3.out⟩, ⟨HG3.out.below HB5.out⟩, ⟨Kd.R_lower HR5.out (by have := HB3.out.size; have := HBS.out; omega)⟩, ⟨below_then HB3.out (by have := HB3.out.size; have := HBS.out; omega) HB5.out⟩, ⟨hcome⟩⟩
                  case measure =>
                    rw [iterN_eq ((HB5.out.block r (blk_lt HR3.out)).trans HR3.out), iterN_eq HR.out, Array.size_push]
                    have := HSZS.out
                    omega
            · have d0 : decide (i64ok xs.sum) = false := decide_eq_false hio
              rw [d0]
              have hov : (false || !fitB xs.sum) = true := by
                cases hf : fitB xs.sum with
                | false => rfl
                | true => exact absurd (fit_i64 hf) hio
              rw [hov] at hcome
              have HIO := Aside0.mk hio
              clear hio hov d0
              go_wp2_with (first | (go_at_call 88; (refine (insert_calls A8 c8 out ka kb sm kk kr bb _ HC8.out HL8.out HO8.out HK8.out HS8.out).mono ?_); rintro e_ w5 ⟨v5, rfl, hR5_, hB5_⟩; have HR5 := Aside0.mk hR5_; have HB5 := Aside0.mk hB5_; clear hR5_ hB5_))
              go_roundw
              case rel => exact ⟨seen.push j, out.take kk ++ [⟨ka, kb, sm⟩] ++ out.drop kk, true, rfl, ⟨(HB5.out.block r (blk_lt HR3.out)).trans HR3.out⟩, ⟨HG3.out.below HB5.out⟩, ⟨Kd.R_lower HR5.out (by have := HB3.out.size; have := HBS.out; omega)⟩, ⟨below_then HB3.out (by have := HB3.out.size; have := HBS.out; omega) HB5.out⟩, ⟨hcome⟩⟩
              case measure =>
                rw [iterN_eq ((HB5.out.block r (blk_lt HR3.out)).trans HR3.out), iterN_eq HR.out, Array.size_push]
                have := HSZS.out
                omega
          · rw [Bool.true_or] at hcome
            go_wp2_with (first | (go_at_call 88; (refine (insert_calls A8 c8 out ka kb sm kk kr bb _ HC8.out HL8.out HO8.out HK8.out HS8.out).mono ?_); rintro e_ w5 ⟨v5, rfl, hR5_, hB5_⟩; have HR5 := Aside0.mk hR5_; have HB5 := Aside0.mk hB5_; clear hR5_ hB5_))
            go_roundw
            case rel => exact ⟨seen.push j, out.take kk ++ [⟨ka, kb, sm⟩] ++ out.drop kk, true, rfl, ⟨(HB5.out.block r (blk_lt HR3.out)).trans HR3.out⟩, ⟨HG3.out.below HB5.out⟩, ⟨Kd.R_lower HR5.out (by have := HB3.out.size; have := HBS.out; omega)⟩, ⟨below_then HB3.out (by have := HB3.out.size; have := HBS.out; omega) HB5.out⟩, ⟨hcome⟩⟩
            case measure =>
              rw [iterN_eq ((HB5.out.block r (blk_lt HR3.out)).trans HR3.out), iterN_eq HR.out, Array.size_push]
              have := HSZS.out
              omega
end Go.Proofs.Ytmflggbpiadkjaa.P
