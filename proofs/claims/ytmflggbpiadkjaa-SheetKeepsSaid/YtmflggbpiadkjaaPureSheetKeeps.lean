/- SheetKeeps: folding keeps the bases' sum, and folding twice is folding with the common fields. -/
import Derived.Test.YtmflggbpiadkjaaSaySheetKeeps
import Derived.Test.YtmflggbpiadkjaaSpecFd
import Derived.Test.YtmflggbpiadkjaaSpecB
import Derived.Test.YtmflggbpiadkjaaSpecSm
import Derived.Test.YtmflggbpiadkjaaSpecLv
namespace Go.Proofs.Ytmflggbpiadkjaa.Pure
set_option linter.unusedVariables false
set_option linter.unusedSimpArgs false
open Go.RowKit Go.Proofs.Ytmflggbpiadkjaa.P Go.Proofs.Ytmflggbpiadkjaa.Op Go.Proofs.YtmflggbpiadkjaaW.PrintWords Go.Proofs.YtmflggbpiadkjaaW.PrintLast
theorem bits_rng (a b : Int) (ha : 0 ≤ a ∧ a ≤ 31) (hb : 0 ≤ b ∧ b ≤ 31) : 0 ≤ Go.bits .and .i64 a b ∧ Go.bits .and .i64 a b ≤ 31 ∧ ∀ j, j < 5 → bitF (Go.bits .and .i64 a b) j = bitF a j * bitF b j := by
  obtain ⟨n, rfl⟩ := Int.eq_ofNat_of_zero_le ha.1
  obtain ⟨m, rfl⟩ := Int.eq_ofNat_of_zero_le hb.1
  have key : ∀ n m : Fin 32, 0 ≤ Go.bits .and .i64 ((n.val : Nat) : Int) ((m.val : Nat) : Int) ∧ Go.bits .and .i64 ((n.val : Nat) : Int) ((m.val : Nat) : Int) ≤ 31 ∧ ∀ j : Fin 5, bitF (Go.bits .and .i64 ((n.val : Nat) : Int) ((m.val : Nat) : Int)) j.val = bitF ((n.val : Nat) : Int) j.val * bitF ((m.val : Nat) : Int) j.val := by decide +kernel
  have h := key ⟨n, by omega⟩ ⟨m, by omega⟩
  exact ⟨h.1, h.2.1, fun j hj => h.2.2 ⟨j, hj⟩⟩
theorem bit01 (m : Int) (j : Nat) : bitF m j = 0 ∨ bitF m j = 1 := by
  have h : ∀ v : Int, v % 2 = 0 ∨ v % 2 = 1 := fun v => by omega
  rcases j with _ | _ | _ | _ | j <;> exact h _
theorem fld_twice (x : S32) (a b c : Int) (j : Nat) (hj : j < 5) (h : bitF c j = bitF a j * bitF b j) (y : S32) (hy : kfld y j = fldF x a 5 j) : fldF y b 5 j = fldF x c 5 j := by
  unfold fldF at hy ⊢
  rw [hy, h]
  rcases bit01 a j with ha | ha <;> rcases bit01 b j with hb | hb <;> simp [ha, hb, hj]
theorem keyM_twice (x : S32) (a b : Int) (ha : 0 ≤ a ∧ a ≤ 31) (hb : 0 ≤ b ∧ b ≤ 31) : keyM b (keyM a x) = keyM (Go.bits .and .i64 a b) x := by
  have h := (bits_rng a b ha hb).2.2
  unfold keyM
  show (⟨fldF (keptK x a) b 5 0, fldF (keptK x a) b 5 1, fldF (keptK x a) b 5 2, fldF (keptK x a) b 5 3, fldF (keptK x a) b 5 4⟩ : S32) = ⟨fldF x _ 5 0, fldF x _ 5 1, fldF x _ 5 2, fldF x _ 5 3, fldF x _ 5 4⟩
  rw [fld_twice x a b _ 0 (by omega) (h 0 (by omega)) (keptK x a) rfl, fld_twice x a b _ 1 (by omega) (h 1 (by omega)) (keptK x a) rfl, fld_twice x a b _ 2 (by omega) (h 2 (by omega)) (keptK x a) rfl, fld_twice x a b _ 3 (by omega) (h 3 (by omega)) (keptK x a) rfl, fld_twice x a b _ 4 (by omega) (h 4 (by omega)) (keptK x a) rfl]
theorem fold_right {s : List S34} (h : RightL s) {m : Int} (hm : 0 ≤ m ∧ m ≤ 31) : foldK s m = ofK (s.map (rkM m)) := by
  unfold foldK
  rw [if_pos ⟨(right_iff s).2 h, hm.1, hm.2⟩]
theorem fold_twice (x : List S34) (hx : RightL x) (a b : Int) (ha : 0 ≤ a ∧ a ≤ 31) (hb : 0 ≤ b ∧ b ≤ 31) (h : (ofK (x.map (rkM a))).2 = 0) :
    foldK (ofK (x.map (rkM a))).1 b = foldK x (Go.bits .and .i64 a b) := by
  have hr := bits_rng a b ha hb
  rw [fold_right (right_ofK _) hb, fold_right hx ⟨hr.1, hr.2.1⟩]
  refine ofK_congr (fun k => ?_)
  have e : (fun y => isK k (keyM b y)) = fun y => isK k (keyM b y) := rfl
  have h1 := ps_rekey (keyM b) (isK k) (ofK (x.map (rkM a))).1
  have h2 := ps_ofK h (fun y => isK k (keyM b y))
  have h3 := ps_rekey (keyM a) (fun y => isK k (keyM b y)) x
  have h4 := ps_rekey (keyM (Go.bits .and .i64 a b)) (isK k) x
  have e5 : (fun y => isK k (keyM b (keyM a y))) = fun y => isK k (keyM (Go.bits .and .i64 a b) y) := funext fun y => by rw [keyM_twice y a b ha hb]
  rw [e5] at h3
  exact ⟨h1.1.trans (h2.1.trans (h3.1.trans h4.1.symm)), h1.2.trans (h2.2.trans (h3.2.trans h4.2.symm))⟩
theorem base_fold (x : List S34) (a : Int) (h : (ofK (x.map (rkM a))).2 = 0) : baseK (ofK (x.map (rkM a))).1 = baseK x := by
  have e : (bass (ofK (x.map (rkM a))).1).sum = (bass x).sum := by
    rw [bass_ps, bass_ps]
    exact (ps_ofK h (fun _ => true)).2.trans (ps_rekey (keyM a) (fun _ => true) x).2
  unfold baseK
  rw [e]
theorem SheetKeeps : accountinglaw19_SheetKeeps.Pure := by
  intro l a b h ha0 hb0
  refine Ev.rounds ?_
  unfold accountinglaw19_SheetKeeps.f accountinglaw19_large.f
  simp only [Option.bind_some, decide_eq_true_eq]
  have out : Ev (fun k => accountinglaw19_SheetKeeps.j0 k l a b true) true := by
    refine Ev.step (fun k => accountinglaw19_SheetKeeps.j0.eq_2 _ _ _ _ k) ?_
    simp only [if_true]
    exact Ev.now _
  by_cases hl : (l.length : Int) > 300
  · simp only [if_pos hl]; exact out
  simp only [if_neg hl]
  by_cases a1 : a < 0
  · simp only [if_pos a1]; exact out
  simp only [if_neg a1]
  by_cases a2 : a > 31
  · simp only [if_pos a2]; exact out
  simp only [if_neg a2]
  by_cases b1 : b < 0
  · simp only [if_pos b1]; exact out
  simp only [if_neg b1]
  by_cases b2 : b > 31
  · simp only [decide_eq_true b2]; exact out
  simp only [decide_eq_false b2]
  have hok := okS_fit h (by omega)
  have hlv : Ev (fun k => (accountinglaw19_lives.f k).bind fun t => some t) true := Ev.bind lives_ev (Ev.now _)
  refine Ev.step (fun k => accountinglaw19_SheetKeeps.j0.eq_2 _ _ _ _ k) ?_
  unfold sheet_Of.f
  simp only [Bool.false_eq_true, if_false, if_pos hok, Option.bind_some]
  by_cases h0 : (ofK l).2 = 0
  · simp only [if_pos h0]
    have hx := right_ofK l
    have hxo := okS_ofK hok
    generalize (ofK l).1 = x at hx hxo ⊢
    have hf := fold_right hx (m := a) ⟨by omega, by omega⟩
    refine Ev.bind (fold_ev x a hxo) ?_
    rw [hf]
    have hso := okS_ofK (okS_rk hxo a)
    rcases ofK_code (x.map (rkM a)) with h1 | h1
    · simp only [if_pos h1]
      refine Ev.bind (base_ev x hxo) ?_
      refine Ev.bind (base_ev _ hso) ?_
      rw [base_fold x a h1]
      simp only [if_true, bne_self_eq_false]
      refine Ev.step (fun k => accountinglaw19_SheetKeeps.j1.eq_2 _ _ _ _ _ k) ?_
      simp only [Bool.false_eq_true, if_false]
      refine Ev.bind (fold_ev _ b hso) ?_
      refine Ev.bind (fold_ev x _ hxo) ?_
      rw [fold_twice x hx a b ⟨by omega, by omega⟩ ⟨by omega, by omega⟩ h1]
      refine Ev.bind (same_ev _ (foldK_len _ hxo)) ?_
      simp only [if_true]
      exact hlv
    · rw [h1]
      simp only [Int.reduceEq, if_false, if_true]
      exact hlv
  · simp only [if_neg h0]; exact hlv
end Go.Proofs.Ytmflggbpiadkjaa.Pure
