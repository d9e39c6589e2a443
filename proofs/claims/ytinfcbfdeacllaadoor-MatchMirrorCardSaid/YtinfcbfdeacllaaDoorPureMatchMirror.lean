/- The pure statement of the law MatchMirror. -/
import Derived.Test.YtinfcbfdeacllaaDoorSayMatchMirror
import Derived.Test.YtinfcbfdeacllaaDoorSpecE
import Derived.Test.YtinfcbfdeacllaaDoorSpecG
namespace Go.Proofs.YtinfcbfdeacllaaDoor.Pure
open Go.RowKit Go.Proofs.YtinfcbfdeacllaaDoor.P Go.Proofs.YtinfcbfdeacllaaDoor.Op Go.Proofs.YtinfcbfdeacllaaDoorW.PrintWords Go.Proofs.YtinfcbfdeacllaaDoorW.PrintLast Go.Proofs.YtinfcbfdeacllaaDoor.Sp
def mir50 (s : Int) (x : S50) : S50 := ⟨x.f0 + s, -x.f1, x.f2, x.f3⟩
def mir52 (s : Int) (x : S52) : S52 := ⟨x.f0, x.f1 + s, -x.f2, x.f3⟩
theorem rd50_map (s : Int) (lines : List S50) (i : Nat) (h : i < lines.length) : rd_T50 (lines.map (mir50 s)) (i : Int) = mir50 s (rd_T50 lines (i : Int)) := by simp [rd_T50, h]
theorem rd52_map (s : Int) (books : List S52) (z : Int) (h : 0 ≤ z ∧ z < books.length) : rd_T52 (books.map (mir52 s)) z = mir52 s (rd_T52 books z) := by
  have : z.toNat < books.length := by omega
  simp [rd_T52, this]
theorem find_congr {p q : Int → Bool} : ∀ {L : List Int}, (∀ z ∈ L, p z = q z) → L.find? p = L.find? q
  | [], _ => rfl
  | y :: r, h => by
    rw [List.find?_cons, List.find?_cons, h y (by simp), find_congr (fun z hz => h z (by simp [hz]))]
section
variable (s : Int) (books : List S52)
theorem refsTo_mir (u : List Bool) (k : Nat) (hk : k ≤ books.length) (t : ByteArray) : refsTo (books.map (mir52 s)) u k t = refsTo books u k t := by
  unfold refsTo
  congr 1
  refine List.filter_congr (fun j hj => ?_)
  have := List.mem_range.1 hj
  rw [rd52_map s books (j : Int) (by omega)]
  rfl
theorem pickA_mir (u : List Bool) (l : S50) : pickA (books.map (mir52 s)) u (mir50 s l) = pickA books u l := by
  have hn : noneUsed (books.map (mir52 s)) = noneUsed books := by simp [noneUsed]
  unfold pickA pickSame
  rw [hn, List.length_map, show (mir50 s l).f2 = l.f2 from rfl, refsTo_mir s books _ _ (Nat.le_refl _)]
  rw [find_congr (q := isSame books u l) (fun z hz => ?_)]
  have := refsTo_mem hz
  unfold isSame
  rw [rd52_map s books z this]
  show (!rdOf false u z && (-(rd_T52 books z).f2 == -l.f1)) = _
  congr 1
  rw [Bool.eq_iff_iff, beq_iff_eq, beq_iff_eq]
  omega
theorem nearTo_mir (u : List Bool) (win : Int) (l : S50) : ∀ k : Nat, k ≤ books.length → nearTo (books.map (mir52 s)) u win (mir50 s l) k = nearTo books u win l k
  | 0, _ => rfl
  | k + 1, hk => by
    rw [nearTo_succ, nearTo_succ, nearTo_mir u win l k (by omega)]
    unfold nearStep
    rw [rd52_map s books (k : Int) (by omega)]
    have e1 : ((mir52 s (rd_T52 books (k : Int))).f2 == (mir50 s l).f1) = ((rd_T52 books (k : Int)).f2 == l.f1) := by
      show (-(rd_T52 books (k : Int)).f2 == -l.f1) = _
      rw [Bool.eq_iff_iff, beq_iff_eq, beq_iff_eq]
      omega
    have e2 : apt (mir52 s (rd_T52 books (k : Int))).f1 (mir50 s l).f0 = apt (rd_T52 books (k : Int)).f1 l.f0 := by
      show apt ((rd_T52 books (k : Int)).f1 + s) (l.f0 + s) = _
      unfold apt
      rw [show (rd_T52 books (k : Int)).f1 + s - (l.f0 + s) = (rd_T52 books (k : Int)).f1 - l.f0 by omega, show l.f0 + s - ((rd_T52 books (k : Int)).f1 + s) = l.f0 - (rd_T52 books (k : Int)).f1 by omega]
    rw [e1, e2]
theorem pickB_mir (win : Int) (u : List Bool) (l : S50) : pickB (books.map (mir52 s)) win u (mir50 s l) = pickB books win u l := by
  unfold pickB pickNear
  rw [List.length_map, nearTo_mir s books u win l _ (Nat.le_refl _)]
theorem amts_mir : ∀ zs : List Int, (∀ z ∈ zs, 0 ≤ z ∧ z < books.length) → (amts (books.map (mir52 s)) zs).sum = -(amts books zs).sum
  | [], _ => rfl
  | z :: r, h => by
    have ih := amts_mir r (fun y hy => h y (by simp [hy]))
    unfold amts at ih ⊢
    rw [List.map_cons, List.map_cons, List.sum_cons, List.sum_cons, ih, rd52_map s books z (h z (by simp))]
    show -(rd_T52 books z).f2 + _ = _
    omega
theorem pickC_mir {lines lines' : List S50} {win : Int} (hf : Fine lines books win) (hf' : Fine lines' (books.map (mir52 s)) win) (u0 u : List Bool) (l : S50) : pickC (books.map (mir52 s)) u0 u (mir50 s l) = pickC books u0 u l := by
  unfold pickC pickGroup
  rw [List.length_map, show (mir50 s l).f2 = l.f2 from rfl, refsTo_mir s books _ _ (Nat.le_refl _), show (mir50 s l).f1 = -l.f1 from rfl]
  have hl : (unusedOf u (refsTo books u0 books.length l.f2)).length ≤ 4000 := Nat.le_trans (List.length_filter_le _ _) (Nat.le_trans (Sp.refsTo_len _ _ _ _) hf.b)
  have hr : ∀ z ∈ unusedOf u (refsTo books u0 books.length l.f2), 0 ≤ z ∧ z < books.length := fun z hz => refsTo_mem (List.mem_filter.1 hz).1
  have g1 : gsum books (unusedOf u (refsTo books u0 books.length l.f2)) = 0 + _ := gsum_sum hf (unusedOf u (refsTo books u0 books.length l.f2)) 0 0 (by omega) (by simp) (by simp)
  have g2 : gsum (books.map (mir52 s)) (unusedOf u (refsTo books u0 books.length l.f2)) = 0 + _ := gsum_sum hf' (unusedOf u (refsTo books u0 books.length l.f2)) 0 0 (by omega) (by simp) (by simp)
  rw [amts_mir s books _ hr] at g2
  rw [g1, g2]
  by_cases h : 0 + (amts books (unusedOf u (refsTo books u0 books.length l.f2))).sum = l.f1
  · rw [if_pos h, if_pos (show 0 + -(amts books (unusedOf u (refsTo books u0 books.length l.f2))).sum = -l.f1 by omega)]
  · rw [if_neg h, if_neg (show ¬ 0 + -(amts books (unusedOf u (refsTo books u0 books.length l.f2))).sum = -l.f1 by omega)]
end
theorem pass_mir (s : Int) {pick pick' : List Bool → S50 → List Int} (hp : ∀ u l, pick' u (mir50 s l) = pick u l) (lines : List S50) (st : List Bool × (Int → List Int)) : ∀ k : Nat, k ≤ lines.length → pass pick' (lines.map (mir50 s)) st k = pass pick lines st k
  | 0, _ => rfl
  | k + 1, hk => by
    show stepOf pick' (lines.map (mir50 s)) (pass pick' (lines.map (mir50 s)) st k) k = stepOf pick lines (pass pick lines st k) k
    rw [pass_mir s hp lines st k (by omega)]
    unfold stepOf
    rw [rd50_map s lines k (by omega), hp]
theorem run_mir (s : Int) {lines : List S50} {books : List S52} {win : Int} (hf : Fine lines books win) (hf' : Fine (lines.map (mir50 s)) (books.map (mir52 s)) win) : runOf (lines.map (mir50 s)) (books.map (mir52 s)) win = runOf lines books win := by
  have hn : noneUsed (books.map (mir52 s)) = noneUsed books := by simp [noneUsed]
  have hA : passA (lines.map (mir50 s)) (books.map (mir52 s)) lines.length = passA lines books lines.length := by
    unfold passA
    rw [hn]
    exact pass_mir s (pickA_mir s books) lines _ _ (Nat.le_refl _)
  have hB : passB (lines.map (mir50 s)) (books.map (mir52 s)) win lines.length = passB lines books win lines.length := by
    unfold passB
    rw [List.length_map, hA]
    exact pass_mir s (pickB_mir s books win) lines _ _ (Nat.le_refl _)
  have hC : passC (lines.map (mir50 s)) (books.map (mir52 s)) win lines.length = passC lines books win lines.length := by
    unfold passC
    rw [List.length_map, hB]
    exact pass_mir s (pickC_mir s books hf hf' _) lines _ _ (Nat.le_refl _)
  unfold runOf
  rw [List.length_map, hC]
section
variable (s : Int) (hs : 0 ≤ s ∧ s ≤ 109572) (lines : List S50) (books : List S52) (win : Int) (hf : Fine lines books win) (hl : ∀ x ∈ lines, x.f2.size ≤ maxLen) (hb : ∀ x ∈ books, x.f3.size ≤ maxLen)
include hs hf hl hb
theorem mir_end (hd : ∀ x ∈ lines, x.f0 + s ≤ 109572) (hd' : ∀ x ∈ books, x.f1 + s ≤ 109572) : Ev (fun k => accountinglaw49_MatchMirror.l1 k s (runOf lines books win) (lines.map (mir50 s)) (books.map (mir52 s)) (books.length : Int) lines books win) true := by
  have hf' : Fine (lines.map (mir50 s)) (books.map (mir52 s)) win := by
    refine ⟨hf.w0, hf.w1, by rw [List.length_map]; exact hf.l, by rw [List.length_map]; exact hf.b, fun x hx => ?_, fun x hx => ?_⟩
    · obtain ⟨y, hy, rfl⟩ := List.mem_map.1 hx
      have h1 := hf.ld y hy
      have h2 := hd y hy
      show (0 ≤ y.f0 + s ∧ y.f0 + s ≤ 109572) ∧ (-1000000000000 ≤ -y.f1 ∧ -y.f1 ≤ 1000000000000)
      omega
    · obtain ⟨y, hy, rfl⟩ := List.mem_map.1 hx
      have h1 := hf.bd y hy
      have h2 := hd' y hy
      show (0 ≤ y.f1 + s ∧ y.f1 + s ≤ 109572) ∧ (-1000000000000 ≤ -y.f2 ∧ -y.f2 ≤ 1000000000000)
      omega
  have hlen := runOf_len lines books win
  have := hf.l
  have := hf.b
  refine Ev.step (fun k => accountinglaw49_MatchMirror.l1.eq_2 _ _ _ _ _ _ _ _ k) ?_
  simp only [if_neg (show ¬ ((books.length : Int) < (books.length : Int)) by omega), run_some (lines.map (mir50 s)) (books.map (mir52 s)) win (fun x hx => by obtain ⟨y, hy, rfl⟩ := List.mem_map.1 hx; exact hl y hy) (fun x hx => by obtain ⟨y, hy, rfl⟩ := List.mem_map.1 hx; exact hb y hy) (by rw [List.length_map]; omega) (by rw [List.length_map]; omega), Option.bind_some, (fine_iff _ _ _).2 hf', if_true, run_mir s hf hf']
  refine (same_ev _ (by omega) (runOf_short _ _ _ (by omega))).bind ?_
  simp only [if_true]
  exact lives_ev.bind (Ev.now _)
theorem mir_l1 (hd : ∀ x ∈ lines, x.f0 + s ≤ 109572) : ∀ (n i : Nat), books.length - i = n → i ≤ books.length → (∀ x ∈ books.take i, x.f1 + s ≤ 109572) → Ev (fun k => accountinglaw49_MatchMirror.l1 k s (runOf lines books win) (lines.map (mir50 s)) ((books.take i).map (mir52 s)) (i : Int) lines books win) true := by
  have := hf.b
  intro n
  induction n with
  | zero =>
    intro i hn hi h
    obtain rfl : i = books.length := by omega
    rw [List.take_length] at h ⊢
    exact mir_end s hs lines books win hf hl hb hd h
  | succ n ih =>
    intro i hn hi h
    have hil : i < books.length := by omega
    have hw : wrap64 ((i : Int) + 1) = ((i + 1 : Nat) : Int) := by rw [w64 (by omega) (by omega)]; omega
    have hbd := hf.bd _ (rd52_mem hil)
    have w1 : wrap64 ((rd_T52 books (i : Int)).f1 + s) = (rd_T52 books (i : Int)).f1 + s := w64s (by omega) (by omega)
    have w2 : wrap64 (-(rd_T52 books (i : Int)).f2) = -(rd_T52 books (i : Int)).f2 := w64s (by omega) (by omega)
    have ht : books.take (i + 1) = books.take i ++ [rd_T52 books (i : Int)] := by
      rw [List.take_add_one, List.getElem?_eq_getElem hil]
      simp [rd_T52, hil]
    refine Ev.step (fun k => accountinglaw49_MatchMirror.l1.eq_2 _ _ _ _ _ _ _ _ k) ?_
    simp only [if_pos (show ((i : Int) < (books.length : Int)) by omega), if_pos (show (0 : Int) ≤ (i : Int) by omega), w1, w2, hw]
    by_cases hbig : (rd_T52 books (i : Int)).f1 + s > 109572
    · simp only [if_pos hbig]
      exact lives_ev.bind (Ev.now _)
    · simp only [if_neg hbig, if_pos (show ((books.take i).map (mir52 s)).length < 3518437208883 by rw [List.length_map, List.length_take]; omega)]
      have := ih (i + 1) (by omega) (by omega) (fun x hx => by
        rw [ht] at hx
        rcases List.mem_append.1 hx with hx | hx
        · exact h x hx
        · simp at hx; rw [hx]; omega)
      rw [ht, List.map_append] at this
      exact this
theorem mir_l0 : ∀ (n i : Nat), lines.length - i = n → i ≤ lines.length → (∀ x ∈ lines.take i, x.f0 + s ≤ 109572) → Ev (fun k => accountinglaw49_MatchMirror.l0 k s (runOf lines books win) ((lines.take i).map (mir50 s)) [] (i : Int) lines books win) true := by
  have := hf.l
  intro n
  induction n with
  | zero =>
    intro i hn hi h
    obtain rfl : i = lines.length := by omega
    rw [List.take_length] at h ⊢
    refine Ev.step (fun k => accountinglaw49_MatchMirror.l0.eq_2 _ _ _ _ _ _ _ _ k) ?_
    simp only [if_neg (show ¬ ((lines.length : Int) < (lines.length : Int)) by omega)]
    exact mir_l1 s hs lines books win hf hl hb h _ 0 rfl (Nat.zero_le _) (fun x hx => by simp at hx)
  | succ n ih =>
    intro i hn hi h
    have hil : i < lines.length := by omega
    have hw : wrap64 ((i : Int) + 1) = ((i + 1 : Nat) : Int) := by rw [w64 (by omega) (by omega)]; omega
    have hbd := hf.ld _ (rd50_mem hil)
    have w1 : wrap64 ((rd_T50 lines (i : Int)).f0 + s) = (rd_T50 lines (i : Int)).f0 + s := w64s (by omega) (by omega)
    have w2 : wrap64 (-(rd_T50 lines (i : Int)).f1) = -(rd_T50 lines (i : Int)).f1 := w64s (by omega) (by omega)
    have ht : lines.take (i + 1) = lines.take i ++ [rd_T50 lines (i : Int)] := by
      rw [List.take_add_one, List.getElem?_eq_getElem hil]
      simp [rd_T50, hil]
    refine Ev.step (fun k => accountinglaw49_MatchMirror.l0.eq_2 _ _ _ _ _ _ _ _ k) ?_
    simp only [if_pos (show ((i : Int) < (lines.length : Int)) by omega), if_pos (show (0 : Int) ≤ (i : Int) by omega), w1, w2, hw]
    by_cases hbig : (rd_T50 lines (i : Int)).f0 + s > 109572
    · simp only [if_pos hbig]
      exact lives_ev.bind (Ev.now _)
    · simp only [if_neg hbig, if_pos (show ((lines.take i).map (mir50 s)).length < 2932031007402 by rw [List.length_map, List.length_take]; omega)]
      have := ih (i + 1) (by omega) (by omega) (fun x hx => by
        rw [ht] at hx
        rcases List.mem_append.1 hx with hx | hx
        · exact h x hx
        · simp at hx; rw [hx]; omega)
      rw [ht, List.map_append] at this
      exact this
end
theorem MatchMirror : accountinglaw49_MatchMirror.Pure := by
  intro a0 a1 hfit hfit1
  obtain ⟨⟨_, hl⟩, ⟨_, hb⟩, _⟩ := hfit
  refine Ev.rounds ?_
  obtain ⟨b, hbv, hsm⟩ := large_ev a0.f0 a0.f1
  unfold accountinglaw49_MatchMirror.f
  refine hbv.bind ?_
  cases b
  · obtain ⟨h30, h60⟩ := hsm rfl
    have jt : ∀ m, Ev (fun k => accountinglaw49_MatchMirror.j0 k a1 m true a0.f0 a0.f1 a0.f2) true := fun m => by
      refine Ev.step (fun k => accountinglaw49_MatchMirror.j0.eq_2 _ _ _ _ _ _ k) ?_
      simp only [if_true]
      exact lives_ev.bind (Ev.now _)
    simp only [Bool.false_eq_true, if_false, run_some a0.f0 a0.f1 a0.f2 (fun x hx => (hl x hx).2.2.1) (fun x hx => (hb x hx).2.2.2) (by omega) (by omega), Option.bind_some]
    by_cases hc : checkOf a0.f0 a0.f1 a0.f2 = 0
    · simp only [if_pos hc]
      have hf := (fine_iff _ _ _).1 hc
      by_cases h1 : a1 < 0
      · simp only [if_pos h1]; exact jt _
      by_cases h2 : a1 > 109572
      · simp only [if_neg h1, decide_eq_true h2]; exact jt _
      simp only [if_neg h1, decide_eq_false h2]
      refine Ev.step (fun k => accountinglaw49_MatchMirror.j0.eq_2 _ _ _ _ _ _ k) ?_
      simp only [Bool.false_eq_true, if_false]
      exact mir_l0 a1 (by omega) a0.f0 a0.f1 a0.f2 hf (fun x hx => (hl x hx).2.2.1) (fun x hx => (hb x hx).2.2.2) _ 0 rfl (Nat.zero_le _) (fun x hx => by simp at hx)
    · simp only [if_neg hc]
      exact jt _
  · simp only [if_true]
    exact lives_ev.bind (Ev.now _)
end Go.Proofs.YtinfcbfdeacllaaDoor.Pure
