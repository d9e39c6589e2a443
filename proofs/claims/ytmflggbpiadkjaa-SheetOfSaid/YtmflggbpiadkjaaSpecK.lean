/- The reference's keys, Of and Same, in plain words. -/
import Derived.Test.YtmflggbpiadkjaaSpecS
import Derived.Test.YtmflggbpiadkjaaSpecSm
import Derived.Test.YtmflggbpiadkjaaSpecO
import Derived.Test.YtmflggbpiadkjaaPx8
import Derived.Test.YtmflggbpiadkjaaPx10
namespace Go.Proofs.Ytmflggbpiadkjaa.P
open Go.RowKit Go.Sort Go.Proofs.YtmflggbpiadkjaaW.PrintWords Go.Proofs.YtmflggbpiadkjaaW.PrintLast
set_option linter.unusedVariables false
set_option linter.unusedSimpArgs false
/-! ### keys -/
theorem insK_at (key : S32) : ∀ (out : List S32) (q : Nat), SS out → q ≤ out.length → (∀ j (h : j < out.length), q ≤ j → 0 < cmpK out[j] key) → (∀ h : q - 1 < out.length, 0 < q → cmpK out[q - 1] key ≤ 0) →
    insK key out = if 0 < q ∧ cmpK (rd_T32 out ((q - 1 : Nat) : Int)) key = 0 then out else out.take q ++ key :: out.drop q
  | [], q, _, hq, _, _ => by
    have : q = 0 := by simpa using hq
    subst this
    simp [insK]
  | h :: t, 0, hs, hq, h1, _ => by
    have h0 := h1 0 (by simp) (Nat.le_refl _)
    simp only [List.getElem_cons_zero] at h0
    have := cmp3_K.sw h key
    unfold insK
    rw [if_pos (show cmpK key h < 0 by omega), if_neg (by omega)]
    rfl
  | h :: t, q + 1, hs, hq, h1, h2 => by
    have hs' := List.pairwise_cons.1 hs
    have hle : cmpK h key ≤ 0 := by
      have h3 := h2 (by simp at hq ⊢; omega) (by omega)
      cases q with
      | zero => simpa using h3
      | succ q =>
        have hq2 : q < t.length := by simp at hq; omega
        have e : (h :: t)[q + 1 + 1 - 1]'(by simp; omega) = t[q] := rfl
        rw [e] at h3
        have := cmp3_K.lt_le (hs'.1 t[q] (List.getElem_mem hq2)) h3
        omega
    have hsw := cmp3_K.sw h key
    unfold insK
    rw [if_neg (show ¬ cmpK key h < 0 by omega)]
    have ih := insK_at key t q hs'.2 (by simp at hq; omega) (fun j hj hqj => by
      have := h1 (j + 1) (by simp; omega) (by omega)
      simpa using this) (fun hj hq0 => by
      have := h2 (by simp; omega) (by omega)
      obtain ⟨p, rfl⟩ : ∃ p, q = p + 1 := ⟨q - 1, by omega⟩
      simpa using this)
    cases q with
    | zero =>
      have e : rd_T32 (h :: t) ((0 + 1 - 1 : Nat) : Int) = h := rfl
      rw [e]
      by_cases hz : cmpK h key = 0
      · rw [if_pos (show cmpK key h = 0 by omega), if_pos ⟨by omega, hz⟩]
      · rw [if_neg (show ¬ cmpK key h = 0 by omega), if_neg (fun c => hz c.2), ih, if_neg (fun c => by omega)]
        rfl
    | succ q =>
      have hq2 : q < t.length := by simp at hq; omega
      have hlt : cmpK h key < 0 := by
        have h3 := h2 (by simp; omega) (by omega)
        have e : (h :: t)[q + 1 + 1 - 1]'(by simp; omega) = t[q] := rfl
        rw [e] at h3
        exact cmp3_K.lt_le (hs'.1 t[q] (List.getElem_mem hq2)) h3
      have e : rd_T32 (h :: t) ((q + 1 + 1 - 1 : Nat) : Int) = rd_T32 t ((q + 1 - 1 : Nat) : Int) := by
        show rd_T32 (h :: t) ((q + 1 : Nat) : Int) = rd_T32 t (q : Int)
        rw [rd32_at (show q + 1 < (h :: t).length by simp; omega), rd32_at hq2]
        rfl
      rw [if_neg (show ¬ cmpK key h = 0 by omega), ih, e]
      by_cases hz : cmpK (rd_T32 t ((q + 1 - 1 : Nat) : Int)) key = 0
      · rw [if_pos ⟨by omega, hz⟩, if_pos ⟨by omega, hz⟩]
      · rw [if_neg (fun c => hz c.2), if_neg (fun c => hz c.2)]
        rfl
theorem mk32 (x : S32) : (⟨x.f0, x.f1, x.f2, x.f3, x.f4⟩ : S32) = x := rfl
/-- The cells from q on move up by one. -/
theorem keys_l2 (l : List S34) (out : List S32) (i q : Nat) (r : List S32) (hi : i < l.length) (hl : l.length ≤ 1000000) (ho : out.length ≤ 1000000) (hq : q ≤ out.length)
    (hr : Ev (fun k => accountingref19_keys.l0 k l (out.take q ++ l[i].f0 :: out.drop q) ((i + 1 : Nat) : Int)) r) :
    ∀ (n j : Nat) (z : S32), j - q = n → q ≤ j → j ≤ out.length → Ev (fun k => accountingref19_keys.l2 k l (out.take j ++ z :: out.drop j) (i : Int) (q : Int) (j : Int)) r := by
  have hw1 : wrap64 ((i : Int) + 1) = ((i + 1 : Nat) : Int) := by rw [w64 (by omega) (by omega)]; omega
  intro n
  induction n with
  | zero =>
    intro j z hn hqj hj
    obtain rfl : q = j := by omega
    have hlen : (out.take q ++ z :: out.drop q).length = out.length + 1 := by simp; omega
    have hset : (out.take q ++ z :: out.drop q).set q l[i].f0 = out.take q ++ l[i].f0 :: out.drop q := by
      rw [List.set_append_right _ _ (by rw [List.length_take]; omega), List.length_take, Nat.min_eq_left hq, Nat.sub_self]
      rfl
    refine Ev.step (fun k => accountingref19_keys.l2.eq_2 _ _ _ _ _ k) ?_
    simp only [if_neg (show ¬ ((q : Int) > (q : Int)) by omega), if_pos (show (0 : Int) ≤ (i : Int) by omega), if_pos (show (i : Int) < (l.length : Int) by omega), if_pos (show (0 : Int) ≤ (q : Int) by omega), hlen, if_pos (show (q : Int) < ((out.length + 1 : Nat) : Int) by omega), Int.toNat_natCast, hw1, rd34_at hi, mk32, hset]
    exact hr
  | succ n ih =>
    intro j z hn hqj hj
    have hlen : (out.take j ++ z :: out.drop j).length = out.length + 1 := by simp; omega
    have hwj : wrap64 ((j : Int) - 1) = ((j - 1 : Nat) : Int) := by rw [w64 (by omega) (by omega)]; omega
    have hj1 : j - 1 < out.length := by omega
    have hrd : rd_T32 (out.take j ++ z :: out.drop j) ((j - 1 : Nat) : Int) = out[j - 1] := by
      rw [rd32_at (by rw [hlen]; omega), List.getElem_append_left (by rw [List.length_take]; omega), List.getElem_take]
    have ht : out.take j = out.take (j - 1) ++ [out[j - 1]] := by
      obtain ⟨p, rfl⟩ : ∃ p, j = p + 1 := ⟨j - 1, by omega⟩
      rw [List.take_add_one, List.getElem?_eq_getElem (by omega)]
      rfl
    have hd : out.drop (j - 1) = out[j - 1] :: out.drop j := by
      rw [List.drop_eq_getElem_cons hj1, show j - 1 + 1 = j by omega]
    have hset : (out.take j ++ z :: out.drop j).set j out[j - 1] = out.take (j - 1) ++ out[j - 1] :: out.drop (j - 1) := by
      rw [List.set_append_right _ _ (by rw [List.length_take]; omega), List.length_take, Nat.min_eq_left hj, Nat.sub_self, hd, ht, List.append_assoc]
      rfl
    refine Ev.step (fun k => accountingref19_keys.l2.eq_2 _ _ _ _ _ k) ?_
    simp only [if_pos (show ((j : Int) > (q : Int)) by omega), hwj, hlen, if_pos (show (0 : Int) ≤ ((j - 1 : Nat) : Int) by omega), if_pos (show ((j - 1 : Nat) : Int) < ((out.length + 1 : Nat) : Int) by omega), if_pos (show (0 : Int) ≤ (j : Int) by omega), if_pos (show (j : Int) < ((out.length + 1 : Nat) : Int) by omega), Int.toNat_natCast, hrd, mk32, hset]
    exact ih (j - 1) _ (by omega) (by omega) (by omega)
theorem keys_j2 (l : List S34) (out : List S32) (i q : Nat) (r : List S32) (hi : i < l.length) (hl : l.length ≤ 1000000) (ho : out.length ≤ 1000000) (hq : q ≤ out.length) (hs : SS out)
    (h1 : ∀ j (h : j < out.length), q ≤ j → 0 < cmpK out[j] l[i].f0) (h2 : ∀ h : q - 1 < out.length, 0 < q → cmpK out[q - 1] l[i].f0 ≤ 0)
    (hr : Ev (fun k => accountingref19_keys.l0 k l (insK l[i].f0 out) ((i + 1 : Nat) : Int)) r) :
    Ev (fun k => accountingref19_keys.j2 k l out (i : Int) (q : Int)) r := by
  have hw1 : wrap64 ((i : Int) + 1) = ((i + 1 : Nat) : Int) := by rw [w64 (by omega) (by omega)]; omega
  rw [insK_at l[i].f0 out q hs hq h1 h2] at hr
  have new : ¬ (0 < q ∧ cmpK (rd_T32 out ((q - 1 : Nat) : Int)) l[i].f0 = 0) → Ev (fun k => accountingref19_keys.j3 k l out (i : Int) (q : Int) false) r := by
    intro hn
    rw [if_neg hn] at hr
    refine Ev.step (fun k => accountingref19_keys.j3.eq_2 _ _ _ _ _ k) ?_
    simp only [Bool.false_eq_true, if_false, if_pos (show out.length < 1759218604441 by omega), Option.bind_some]
    have hwl : wrap64 (((out ++ [(⟨(⟨#[]⟩ : ByteArray), (⟨#[]⟩ : ByteArray), (⟨#[]⟩ : ByteArray), (⟨#[]⟩ : ByteArray), (⟨#[]⟩ : ByteArray)⟩ : S32)]).length : Int) - 1) = (out.length : Int) := by
      rw [w64 (by simp <;> omega) (by simp <;> omega)]; simp <;> omega
    simp only [hwl]
    have h0 := keys_l2 l out i q r hi hl ho hq hr _ out.length ⟨(⟨#[]⟩ : ByteArray), (⟨#[]⟩ : ByteArray), (⟨#[]⟩ : ByteArray), (⟨#[]⟩ : ByteArray), (⟨#[]⟩ : ByteArray)⟩ rfl hq (Nat.le_refl _)
    rw [List.take_length, List.drop_length] at h0
    exact h0
  refine Ev.step (fun k => accountingref19_keys.j2.eq_2 _ _ _ _ k) ?_
  by_cases hq0 : 0 < q
  · have hwq : wrap64 ((q : Int) - 1) = ((q - 1 : Nat) : Int) := by rw [w64 (by omega) (by omega)]; omega
    simp only [if_pos (show (q : Int) > 0 by omega), hwq, if_pos (show (0 : Int) ≤ ((q - 1 : Nat) : Int) by omega), if_pos (show ((q - 1 : Nat) : Int) < (out.length : Int) by omega), if_pos (show (0 : Int) ≤ (i : Int) by omega), if_pos (show (i : Int) < (l.length : Int) by omega), key_beq, rd34_at hi]
    by_cases hz : cmpK (rd_T32 out ((q - 1 : Nat) : Int)) l[i].f0 = 0
    · rw [if_pos ⟨hq0, hz⟩] at hr
      simp only [hz, decide_true]
      refine Ev.step (fun k => accountingref19_keys.j3.eq_2 _ _ _ _ _ k) ?_
      simp only [if_true, hw1]
      exact hr
    · simp only [hz, decide_false]
      exact new (fun c => hz c.2)
  · simp only [if_neg (show ¬ (q : Int) > 0 by omega)]
    exact new (fun c => hq0 c.1)
theorem keys_l1 (l : List S34) (out : List S32) (i : Nat) (r : List S32) (hi : i < l.length) (hl : l.length ≤ 1000000) (ho : out.length ≤ 1000000) (hs : SS out)
    (hr : Ev (fun k => accountingref19_keys.l0 k l (insK l[i].f0 out) ((i + 1 : Nat) : Int)) r) :
    ∀ (q : Nat), q ≤ out.length → (∀ j (h : j < out.length), q ≤ j → 0 < cmpK out[j] l[i].f0) → Ev (fun k => accountingref19_keys.l1 k l out (i : Int) (q : Int)) r := by
  intro q
  induction q with
  | zero =>
    intro hq h1
    refine Ev.step (fun k => accountingref19_keys.l1.eq_2 _ _ _ _ k) ?_
    simp only [if_neg (show ¬ ((0 : Nat) : Int) > 0 by omega)]
    exact keys_j2 l out i 0 r hi hl ho hq hs h1 (fun _ h => absurd h (by omega)) hr
  | succ q ih =>
    intro hq h1
    have hwq : wrap64 (((q + 1 : Nat) : Int) - 1) = (q : Int) := by rw [w64 (by omega) (by omega)]; omega
    refine Ev.step (fun k => accountingref19_keys.l1.eq_2 _ _ _ _ k) ?_
    simp only [if_pos (show ((q + 1 : Nat) : Int) > 0 by omega), hwq, if_pos (show (0 : Int) ≤ (q : Int) by omega), if_pos (show (q : Int) < (out.length : Int) by omega), if_pos (show (0 : Int) ≤ (i : Int) by omega), if_pos (show (i : Int) < (l.length : Int) by omega), rd34_at hi, rd32_at (show q < out.length by omega)]
    have hc : Ev (fun k => accountingref19_Cmp.f k out[q].f0 out[q].f1 out[q].f2 out[q].f3 out[q].f4 l[i].f0.f0 l[i].f0.f1 l[i].f0.f2 l[i].f0.f3 l[i].f0.f4) (cmpK out[q] l[i].f0) :=
      ⟨6, fun k hk => by obtain ⟨m, rfl⟩ : ∃ m, k = m + 6 := ⟨k - 6, by omega⟩; exact refCmp_pure _ _ m⟩
    refine Ev.bind hc ?_
    by_cases hz : cmpK out[q] l[i].f0 > 0
    · simp only [if_pos hz]
      refine ih (by omega) (fun j hj hqj => ?_)
      rcases Nat.eq_or_lt_of_le hqj with h | h
      · subst h; exact hz
      · exact h1 j hj h
    · simp only [if_neg hz]
      exact keys_j2 l out i (q + 1) r hi hl ho hq hs h1 (fun h _ => by
        show cmpK out[q] l[i].f0 ≤ 0
        omega) hr
theorem keysK_len (l : List S34) : (keysK l).length ≤ l.length := by
  induction l with
  | nil => exact Nat.le_refl _
  | cons c r ih =>
    have h : ∀ (k : S32) (ks : List S32), (insK k ks).length ≤ ks.length + 1 := by
      intro k ks
      induction ks with
      | nil => exact Nat.le_refl _
      | cons a b ih =>
        unfold insK
        by_cases h1 : cmpK k a < 0
        · rw [if_pos h1]; simp
        · rw [if_neg h1]
          by_cases h2 : cmpK k a = 0
          · rw [if_pos h2]; simp
          · rw [if_neg h2]; simp only [List.length_cons]; omega
    have := h c.f0 (keysK r)
    unfold keysK
    simp only [List.length_cons]
    omega
theorem keys_l0 (l : List S34) (hl : l.length ≤ 1000000) : ∀ (n i : Nat), l.length - i = n → i ≤ l.length → Ev (fun k => accountingref19_keys.l0 k l (keysK (l.take i)) (i : Int)) (keysK l) := by
  intro n
  induction n with
  | zero =>
    intro i hn hi
    refine Ev.step (fun k => accountingref19_keys.l0.eq_2 _ _ _ k) ?_
    rw [List.take_of_length_le (by omega)]
    simp only [if_neg (show ¬ ((i : Int) < (l.length : Int)) by omega)]
    exact Ev.now _
  | succ n ih =>
    intro i hn hi
    have hil : i < l.length := by omega
    have hk := keysK_len (l.take i)
    rw [List.length_take] at hk
    refine Ev.step (fun k => accountingref19_keys.l0.eq_2 _ _ _ k) ?_
    simp only [if_pos (show ((i : Int) < (l.length : Int)) by omega)]
    refine keys_l1 l (keysK (l.take i)) i _ hil hl (by omega) (ss_keysK _) ?_ _ (Nat.le_refl _) (fun j hj h => absurd hj (by omega))
    have e : insK l[i].f0 (keysK (l.take i)) = keysK (l.take (i + 1)) := by
      rw [List.take_add_one, List.getElem?_eq_getElem hil]
      exact (keysK_perm (show (l.take i ++ [l[i]]).Perm (l[i] :: l.take i) from List.perm_append_comm)).symm
    rw [e]
    exact ih (i + 1) (by omega) (by omega)
theorem keys_ev (l : List S34) (hl : l.length ≤ 1000000) : Ev (fun k => accountingref19_keys.f k l) (keysK l) :=
  keys_l0 l hl _ 0 rfl (Nat.zero_le _)
/-! ### Of -/
theorem sum_i64 (l : List Int) : (if i64ok l.sum then (l.sum, true) else (0, false)) = ((if i64ok l.sum then l.sum else 0), decide (i64ok l.sum)) := by
  by_cases h : i64ok l.sum
  · simp [h]
  · simp [h]
theorem of_l1 (l : List S34) (ks : List S32) (out : List S34) (i : Nat) (r : List S34 × Int) (hi : i < ks.length) (hk : ks.length ≤ 1000000) (hok : OkS l) (ho : out.length ≤ 1000000)
    (hr1 : (fitB (sumA l ks[i]) && fitB (sumB l ks[i])) = false → r = ([], 4))
    (hr2 : (fitB (sumA l ks[i]) && fitB (sumB l ks[i])) = true → Ev (fun k => accountingref19_Of.l0 k l (if sumA l ks[i] ≠ 0 ∨ sumB l ks[i] ≠ 0 then out ++ [⟨ks[i], sumA l ks[i], sumB l ks[i]⟩] else out) ks ((i + 1 : Nat) : Int)) r) :
    ∀ (n j : Nat), l.length - j = n → j ≤ l.length → Ev (fun k => accountingref19_Of.l1 k l out ks (i : Int) (amts ((l.take j).filter (eqK ks[i]))) (bass ((l.take j).filter (eqK ks[i]))) (j : Int)) r := by
  have hl := hok.1
  have hwi : wrap64 ((i : Int) + 1) = ((i + 1 : Nat) : Int) := by rw [w64 (by omega) (by omega)]; omega
  have len : ∀ j, ((l.take j).filter (eqK ks[i])).length ≤ 1000000 := fun j => by
    have h1 := List.length_filter_le (eqK ks[i]) (l.take j)
    rw [List.length_take] at h1
    omega
  have bad : r = ([], 4) → ∀ x y, Ev (fun k => accountingref19_Of.j2 k l out ks (i : Int) x y true) r := by
    rintro rfl x y
    refine Ev.step (fun k => accountingref19_Of.j2.eq_2 _ _ _ _ _ _ _ k) ?_
    simp only [if_true]
    exact Ev.now _
  intro n
  induction n with
  | zero =>
    intro j hn hj
    refine Ev.step (fun k => accountingref19_Of.l1.eq_2 _ _ _ _ _ _ _ k) ?_
    rw [List.take_of_length_le (by omega)]
    simp only [if_neg (show ¬ ((j : Int) < (l.length : Int)) by omega)]
    have hla : (l.filter (eqK ks[i])).length ≤ 1000000 := Nat.le_trans (List.length_filter_le _ _) hl
    refine Ev.bind (rsum_ev (amts (l.filter (eqK ks[i]))) (by unfold amts; rw [List.length_map]; exact hla) (fun x hx => by
      obtain ⟨c, hc, rfl⟩ := List.mem_map.1 hx
      exact (hok.2 c (List.mem_filter.1 hc).1).1)) ?_
    refine Ev.bind (rsum_ev (bass (l.filter (eqK ks[i]))) (by unfold bass; rw [List.length_map]; exact hla) (fun x hx => by
      obtain ⟨c, hc, rfl⟩ := List.mem_map.1 hx
      exact (hok.2 c (List.mem_filter.1 hc).1).2)) ?_
    change (fitB (amts (l.filter (eqK ks[i]))).sum && fitB (bass (l.filter (eqK ks[i]))).sum) = false → _ at hr1
    change (fitB (amts (l.filter (eqK ks[i]))).sum && fitB (bass (l.filter (eqK ks[i]))).sum) = true → Ev (fun k => accountingref19_Of.l0 k l (if (amts (l.filter (eqK ks[i]))).sum ≠ 0 ∨ (bass (l.filter (eqK ks[i]))).sum ≠ 0 then out ++ [⟨ks[i], (amts (l.filter (eqK ks[i]))).sum, (bass (l.filter (eqK ks[i]))).sum⟩] else out) ks ((i + 1 : Nat) : Int)) r at hr2
    generalize (amts (l.filter (eqK ks[i]))).sum = A at hr1 hr2 ⊢
    generalize (bass (l.filter (eqK ks[i]))).sum = B at hr1 hr2 ⊢
    have nf : ∀ {n : Int}, ¬ i64ok n → fitB n = false := fun {n} h => by
      cases hf : fitB n with
      | false => rfl
      | true => exact absurd (fit_i64 hf) h
    by_cases ha : i64ok A
    · by_cases hb : i64ok B
      · simp only [if_pos ha, if_pos hb, if_true, fits_pure, Option.bind_some]
        cases hfa : fitB A with
        | false =>
          simp only [Bool.false_eq_true, if_false]
          exact bad (hr1 (by rw [hfa]; rfl)) _ _
        | true =>
          cases hfb : fitB B with
          | false =>
            simp only [if_true, Bool.not_false]
            exact bad (hr1 (by rw [hfb, Bool.and_false])) _ _
          | true =>
            have hr := hr2 (by rw [hfa, hfb]; rfl)
            simp only [if_true, Bool.not_true]
            refine Ev.step (fun k => accountingref19_Of.j2.eq_2 _ _ _ _ _ _ _ k) ?_
            simp only [Bool.false_eq_true, if_false, hwi, if_pos (show (0 : Int) ≤ (i : Int) by omega), if_pos (show (i : Int) < (ks.length : Int) by omega), if_pos (show out.length < 1466015503701 by omega), rd32_at hi, mk32]
            by_cases ca : A = 0
            · by_cases cb : B = 0
              · simp only [if_pos ca, if_pos cb]
                rw [if_neg (by omega)] at hr
                exact hr
              · simp only [if_pos ca, if_neg cb]
                rw [if_pos (by omega)] at hr
                exact hr
            · simp only [if_neg ca]
              rw [if_pos (by omega)] at hr
              exact hr
      · simp only [if_pos ha, if_neg hb, if_true, Bool.false_eq_true, if_false]
        exact bad (hr1 (by rw [nf hb, Bool.and_false])) _ _
    · simp only [if_neg ha, Bool.false_eq_true, if_false]
      exact bad (hr1 (by rw [nf ha, Bool.false_and])) _ _
  | succ n ih =>
    intro j hn hj
    have hjl : j < l.length := by omega
    have hwj : wrap64 ((j : Int) + 1) = ((j + 1 : Nat) : Int) := by rw [w64 (by omega) (by omega)]; omega
    have ht : l.take (j + 1) = l.take j ++ [l[j]] := by rw [List.take_add_one, List.getElem?_eq_getElem hjl]; rfl
    have la := len j
    refine Ev.step (fun k => accountingref19_Of.l1.eq_2 _ _ _ _ _ _ _ k) ?_
    simp only [if_pos (show ((j : Int) < (l.length : Int)) by omega), if_pos (show (0 : Int) ≤ (j : Int) by omega), if_pos (show (0 : Int) ≤ (i : Int) by omega), if_pos (show (i : Int) < (ks.length : Int) by omega), key_beq, rd34_at hjl, rd32_at hi, hwj, decide_eq_true_eq, if_pos (show (amts ((l.take j).filter (eqK ks[i]))).length < 17592186044416 by unfold amts; rw [List.length_map]; omega), if_pos (show (bass ((l.take j).filter (eqK ks[i]))).length < 17592186044416 by unfold bass; rw [List.length_map]; omega)]
    have hsw := cmp3_K.sw l[j].f0 ks[i]
    have ih := ih (j + 1) (by omega) (by omega)
    rw [ht, List.filter_append] at ih
    by_cases hz : cmpK l[j].f0 ks[i] = 0
    · have he : eqK ks[i] l[j] = true := by unfold eqK; exact decide_eq_true (by omega)
      simp only [if_pos hz]
      rw [List.filter_cons, if_pos he, List.filter_nil] at ih
      unfold amts bass at ih ⊢
      rw [List.map_append, List.map_append] at ih
      exact ih
    · have he : ¬ eqK ks[i] l[j] = true := by unfold eqK; rw [decide_eq_true_iff]; omega
      simp only [if_neg hz]
      rw [List.filter_cons, if_neg he, List.filter_nil, List.append_nil] at ih
      exact ih
theorem refof_l0 (l : List S34) (ks : List S32) (hk : ks.length ≤ 1000000) (hok : OkS l) : ∀ (n i : Nat) (out : List S34), ks.length - i = n → i ≤ ks.length → out.length ≤ i → Ev (fun k => accountingref19_Of.l0 k l out ks (i : Int)) (if (cellsK l (ks.drop i) out).1 = true then ((cellsK l (ks.drop i) out).2, 0) else ([], 4)) := by
  intro n
  induction n with
  | zero =>
    intro i out hn hi ho
    refine Ev.step (fun k => accountingref19_Of.l0.eq_2 _ _ _ _ k) ?_
    rw [List.drop_of_length_le (by omega)]
    simp only [if_neg (show ¬ ((i : Int) < (ks.length : Int)) by omega), cellsK, if_true]
    exact Ev.now _
  | succ n ih =>
    intro i out hn hi ho
    have hil : i < ks.length := by omega
    refine Ev.step (fun k => accountingref19_Of.l0.eq_2 _ _ _ _ k) ?_
    simp only [if_pos (show ((i : Int) < (ks.length : Int)) by omega)]
    rw [List.drop_eq_getElem_cons hil]
    unfold cellsK
    refine of_l1 l ks out i _ hil hk hok (by omega) (fun h => ?_) (fun h => ?_) _ 0 rfl (Nat.zero_le _)
    · rw [if_neg (by rw [h]; simp)]
    · rw [if_pos h]
      refine ih (i + 1) _ (by omega) (by omega) ?_
      by_cases c : sumA l ks[i] ≠ 0 ∨ sumB l ks[i] ≠ 0
      · rw [if_pos c, List.length_append]
        simp only [List.length_cons, List.length_nil]
        omega
      · rw [if_neg c]; omega
theorem refof_ev (l : List S34) (h : OkS l) : Ev (fun k => accountingref19_Of.f k l) (ofK l) := by
  unfold accountingref19_Of.f
  refine Ev.bind (keys_ev l h.1) ?_
  have hk := keysK_len l
  have hl := h.1
  exact refof_l0 l (keysK l) (by omega) h _ 0 [] rfl (Nat.zero_le _) (Nat.le_refl _)
end Go.Proofs.Ytmflggbpiadkjaa.P
