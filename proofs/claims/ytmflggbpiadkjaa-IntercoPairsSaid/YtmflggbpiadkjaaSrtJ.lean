/- Texts of mine, joined: Srt, SrtA, HandCmp, HandKey, SrtI, SrtR, SrtM, SrtS. -/
import Derived.Sort.LotA
import Derived.Test.YtmflggbpiadkjaaPx0
import Derived.Shelf.SlSortCmp.KitK
import Derived.Sort.WalkB2
import Derived.Sort.WalkB12
import Derived.Deep.LoopGhost
import Derived.Lib.Bytealg
import Derived.Lib.Strings
import Derived.Laws.Externs
import Derived.Sort.WalkA
/- The plain laws of a stable sort by insertion and merging in place: rotations, merges, blocks. -/
-- squeezed
namespace Go.Proofs.Ytmflggbpiadkjaa.P
open Go.Sort
set_option linter.unusedVariables false
set_option linter.unusedSectionVars false
variable {α : Type} [Inhabited α] {lt : α → α → Bool}
/-- Where the element comes from that lies at t behind a rotation of [a, b) at m. -/
def rotI (a m b t : Nat) : Nat := if a ≤ t ∧ t < a + (b - m) then t + (m - a) else if a + (b - m) ≤ t ∧ t < b then t - (b - m) else t
/-- e is d, but for the blocks [a, m) and [m, b), which have changed places. -/
structure Rot (a m b : Nat) (d e : Array α) : Prop where
 get : ∀ t, e[t]! = d[rotI a m b t]!
 perm : PermIn a b d e
theorem Rot.size {a m b : Nat} {d e : Array α} (h : Rot a m b d e) : e.size = d.size := h.perm.1
/-- n exchanges of neighbours in the blocks at a and at b. -/
def swpN (d : Array α) (a b : Nat) : Nat → Array α
 | 0 => d
 | n + 1 => swp (swpN d a b n) (a + n) (b + n)
theorem swpN_size (d : Array α) (a b : Nat) : ∀ n, (swpN d a b n).size = d.size
 | 0 => rfl
 | n + 1 => by rw [swpN, size_swp, swpN_size d a b n]
theorem swpN_get (d : Array α) (a b : Nat) : ∀ n, a + n ≤ b → b + n ≤ d.size → ∀ t, (swpN d a b n)[t]! = d[if a ≤ t ∧ t < a + n then t + (b - a) else if b ≤ t ∧ t < b + n then t - (b - a) else t]!
 | 0, _, _, t => by
  rw [if_neg (by omega), if_neg (by omega)]
  rfl
 | n + 1, h1, h2, t => by
  have ih := swpN_get d a b n (by omega) (by omega)
  have hs := swpN_size d a b n
  rw [swpN, swp_get _ (by omega) (by omega)]
  by_cases h3 : t = b + n
  ·rw [if_pos h3, ih, if_neg (by omega), if_neg (by omega), if_neg (by omega), if_pos (by omega)]
   congr 1
   omega
  rw [if_neg h3]
  by_cases h4 : t = a + n
  ·rw [if_pos h4, ih, if_neg (by omega), if_neg (by omega), if_pos (by omega)]
   congr 1
   omega
  rw [if_neg h4, ih]
  congr 1
  by_cases h5 : a ≤ t ∧ t < a + n
  ·rw [if_pos h5, if_pos (by omega)]
  rw [if_neg h5]
  by_cases h6 : b ≤ t ∧ t < b + n
  ·rw [if_pos h6, if_neg (by omega), if_pos (by omega)]
  ·rw [if_neg h6, if_neg (by omega), if_neg (by omega)]
theorem swpN_perm (d : Array α) (a b lo hi : Nat) : ∀ n, lo ≤ a → a + n ≤ b → b + n ≤ hi → hi ≤ d.size → PermIn lo hi d (swpN d a b n)
 | 0, _, _, _, _ => permIn_refl _ _ _
 | n + 1, h0, h1, h2, h3 => permIn_trans _ _ _ _ _ (swpN_perm d a b lo hi n h0 (by omega) (by omega) h3) (swp_permIn _ _ _ _ _ (by omega) (by omega) (by omega) (by omega) (by rw [swpN_size]; exact h3))
/-- A state of rotate's loop: what is left to rotate, i before m and j behind it, gives what is wanted. -/
structure RotSt (a m b i j : Nat) (d e : Array α) : Prop where
 hi : 1 ≤ i ∧ i ≤ m - a
 hj : 1 ≤ j ∧ j ≤ b - m
 get : ∀ t, e[rotI (m - i) m (m + j) t]! = d[rotI a m b t]!
 perm : PermIn a b d e
section
variable {a m b i j : Nat} {d e : Array α}
theorem RotSt.start (d : Array α) (h1 : a < m) (h2 : m < b) : RotSt a m b (m - a) (b - m) d d := by
 refine ⟨by omega, by omega, fun t => ?_, permIn_refl _ _ _⟩
 rw [show m - (m - a) = a by omega, show m + (b - m) = b by omega]
theorem RotSt.left (h : RotSt a m b i j d e) (h1 : a < m) (h2 : m < b) (h3 : b ≤ d.size) (hij : j < i) : RotSt a m b (i - j) j d (swpN e (m - i) m j) := by
 have hi := h.hi
 have hj := h.hj
 have hs := h.perm.1
 refine ⟨by omega, by omega, fun t => ?_, permIn_trans _ _ _ _ _ h.perm (swpN_perm e _ _ _ _ j (by omega) (by omega) (by omega) (by omega))⟩
 rw [← h.get t, swpN_get e _ _ j (by omega) (by omega)]
 congr 1
 unfold rotI
 split <;> split <;> (try split) <;> (try split) <;> (try split) <;> (try split) <;> omega
theorem RotSt.right (h : RotSt a m b i j d e) (h1 : a < m) (h2 : m < b) (h3 : b ≤ d.size) (hij : i < j) : RotSt a m b i (j - i) d (swpN e (m - i) (m + j - i) i) := by
 have hi := h.hi
 have hj := h.hj
 have hs := h.perm.1
 refine ⟨by omega, by omega, fun t => ?_, permIn_trans _ _ _ _ _ h.perm (swpN_perm e _ _ _ _ i (by omega) (by omega) (by omega) (by omega))⟩
 rw [← h.get t, swpN_get e _ _ i (by omega) (by omega)]
 congr 1
 unfold rotI
 split <;> split <;> (try split) <;> (try split) <;> (try split) <;> (try split) <;> omega
theorem RotSt.last (h : RotSt a m b i i d e) (h1 : a < m) (h2 : m < b) (h3 : b ≤ d.size) : Rot a m b d (swpN e (m - i) m i) := by
 have hi := h.hi
 have hj := h.hj
 have hs := h.perm.1
 refine ⟨fun t => ?_, permIn_trans _ _ _ _ _ h.perm (swpN_perm e _ _ _ _ i (by omega) (by omega) (by omega) (by omega))⟩
 rw [← h.get t, swpN_get e _ _ i (by omega) (by omega)]
 congr 1
 unfold rotI
 split <;> split <;> (try split) <;> (try split) <;> (try split) <;> (try split) <;> omega
end
/-! ### One element carried through its neighbours -/
/-- x exchanges of neighbours upwards, from a. -/
def upN (d : Array α) (a : Nat) : Nat → Array α
 | 0 => d
 | n + 1 => swp (upN d a n) (a + n) (a + n + 1)
theorem upN_size (d : Array α) (a : Nat) : ∀ n, (upN d a n).size = d.size
 | 0 => rfl
 | n + 1 => by rw [upN, size_swp, upN_size d a n]
theorem upN_rot (d : Array α) (a : Nat) : ∀ n, a + n < d.size → Rot a (a + 1) (a + n + 1) d (upN d a n)
 | 0, h => by
  refine ⟨fun t => ?_, permIn_refl _ _ _⟩
  unfold upN
  congr 1
  unfold rotI
  rw [if_neg (by omega)]
  split <;> omega
 | n + 1, h => by
  have ih := upN_rot d a n (by omega)
  have hs := upN_size d a n
  refine ⟨fun t => ?_, permIn_trans _ _ _ _ _ (permIn_mono _ _ _ _ _ _ (Nat.le_refl _) (by omega) (by omega) ih.perm) (swp_permIn _ _ _ _ _ (by omega) (by omega) (by omega) (by omega) (by omega))⟩
  rw [upN, swp_get _ (by omega) (by omega)]
  by_cases h3 : t = a + n + 1
  ·rw [if_pos h3, ih.get]
   congr 1
   unfold rotI
   split <;> (try split) <;> (try split) <;> (try split) <;> omega
  rw [if_neg h3]
  by_cases h4 : t = a + n
  ·rw [if_pos h4, ih.get]
   congr 1
   unfold rotI
   split <;> (try split) <;> (try split) <;> (try split) <;> omega
  rw [if_neg h4, ih.get]
  congr 1
  unfold rotI
  split <;> (try split) <;> (try split) <;> (try split) <;> omega
/-- n exchanges of neighbours downwards, from m. -/
def downN (d : Array α) (m : Nat) : Nat → Array α
 | 0 => d
 | n + 1 => swp (downN d m n) (m - n) (m - n - 1)
theorem downN_size (d : Array α) (m : Nat) : ∀ n, (downN d m n).size = d.size
 | 0 => rfl
 | n + 1 => by rw [downN, size_swp, downN_size d m n]
theorem downN_rot (d : Array α) (m : Nat) (hm : m < d.size) : ∀ n, n ≤ m → Rot (m - n) m (m + 1) d (downN d m n)
 | 0, _ => by
  refine ⟨fun t => ?_, permIn_refl _ _ _⟩
  unfold rotI
  split
  ·congr 1
   omega
  ·rw [if_neg (by omega)]
   rfl
 | n + 1, hn => by
  have ih := downN_rot d m hm n (by omega)
  have hs := downN_size d m n
  refine ⟨fun t => ?_, permIn_trans _ _ _ _ _ (permIn_mono _ _ _ _ _ _ (by omega) (Nat.le_refl _) (by omega) ih.perm) (swp_permIn _ _ _ _ _ (by omega) (by omega) (by omega) (by omega) (by omega))⟩
  rw [downN, swp_get _ (by omega) (by omega)]
  by_cases h3 : t = m - n - 1
  ·rw [if_pos h3, ih.get]
   congr 1
   unfold rotI
   split <;> (try split) <;> (try split) <;> (try split) <;> omega
  rw [if_neg h3]
  by_cases h4 : t = m - n
  ·rw [if_pos h4, ih.get]
   congr 1
   unfold rotI
   split <;> (try split) <;> (try split) <;> (try split) <;> omega
  rw [if_neg h4, ih.get]
  congr 1
  unfold rotI
  split <;> (try split) <;> (try split) <;> (try split) <;> omega
/-! ### Merges -/
/-- d' is d with [a, b) permuted and ascending. -/
structure Mrg (lt : α → α → Bool) (a b : Nat) (d d' : Array α) : Prop where
 perm : PermIn a b d d'
 sorted : SortedIn lt a b d'
theorem sorted_sub {a b a' b' : Nat} {d : Array α} (h : SortedIn lt a b d) (ha : a ≤ a') (hb : b' ≤ b) : SortedIn lt a' b' d := fun i j h1 h2 h3 => h i j (by omega) h2 (by omega)
theorem sorted_le (hO : SWO lt) {a b i j : Nat} {d : Array α} (h : SortedIn lt a b d) (h1 : a ≤ i) (h2 : i ≤ j) (h3 : j < b) : lt d[j]! d[i]! = false := by
 rcases Nat.lt_or_eq_of_le h2 with h4 | rfl
 ·exact h i j h1 h4 h3
 ·exact hO.irrefl _
/-- All of [a, c) lies below all of [c, b). -/
def Crs (lt : α → α → Bool) (a c b : Nat) (d : Array α) : Prop := ∀ i j, a ≤ i → i < c → c ≤ j → j < b → lt d[j]! d[i]! = false
theorem sorted_join {a c b : Nat} {d : Array α} (h1 : SortedIn lt a c d) (h2 : SortedIn lt c b d) (h3 : Crs lt a c b d) : SortedIn lt a b d := by
 intro i j ha hij hb
 by_cases h4 : j < c
 ·exact h1 i j ha hij h4
 by_cases h5 : c ≤ i
 ·exact h2 i j h5 hij hb
 ·exact h3 i j ha (by omega) (by omega) hb
theorem crs_perm {a c b : Nat} {d e f : Array α} (h : Crs lt a c b d) (hac : a ≤ c) (hcb : c ≤ b) (hb : b ≤ d.size) (h1 : PermIn a c d e) (h2 : PermIn c b e f) : Crs lt a c b f := by
 have k1 : Crs lt a c b e := by
  intro i j ha hic hcj hjb
  have := permIn_all d e a c (fun x => lt d[j]! x = false) (by omega) h1 (fun i ha hic => h i j ha hic hcj hjb) i ha hic
  rw [h1.2.1 j (.inr hcj)]
  exact this
 intro i j ha hic hcj hjb
 have := permIn_all e f c b (fun x => lt x e[i]! = false) (by rw [h1.1]; exact hb) h2 (fun j hcj hjb => k1 i j ha hic hcj hjb) j hcj hjb
 rw [h2.2.1 i (.inl hic)]
 exact this
/-- What a rotation between two ascending runs leaves: [a, c) and [c, b), each of two runs, the one below the other. -/
structure Cutd (lt : α → α → Bool) (a s m n b : Nat) (d : Array α) : Prop where
 has : a ≤ s
 hsm : s ≤ m
 hmn : m ≤ n
 hnb : n ≤ b
 lo : SortedIn lt a m d
 hi : SortedIn lt m b d
 /-- [a, s) is no greater than [n, b). -/
 c1 : ∀ i j, a ≤ i → i < s → n ≤ j → j < b → lt d[j]! d[i]! = false
 /-- [m, n) is no greater than [s, m). -/
 c2 : ∀ i j, s ≤ i → i < m → m ≤ j → j < n → lt d[i]! d[j]! = false
section
variable {a s m n b : Nat} {d e : Array α}
theorem Cutd.runs (h : Cutd lt a s m n b d) (hr : Rot s m n d e) : SortedIn lt a s e ∧ SortedIn lt s (s + (n - m)) e ∧ SortedIn lt (s + (n - m)) n e ∧ SortedIn lt n b e ∧ Crs lt a (s + (n - m)) b e := by
 have h1 := h.has
 have h2 := h.hsm
 have h3 := h.hmn
 have h4 := h.hnb
 have g0 : ∀ t, t < s → e[t]! = d[t]! := fun t ht => by
  rw [hr.get]
  congr 1
  unfold rotI
  rw [if_neg (by omega), if_neg (by omega)]
 have g1 : ∀ t, s ≤ t → t < s + (n - m) → e[t]! = d[t + (m - s)]! := fun t ht ht2 => by
  rw [hr.get]
  congr 1
  unfold rotI
  rw [if_pos (by omega)]
 have g2 : ∀ t, s + (n - m) ≤ t → t < n → e[t]! = d[t - (n - m)]! := fun t ht ht2 => by
  rw [hr.get]
  congr 1
  unfold rotI
  rw [if_neg (by omega), if_pos (by omega)]
 have g3 : ∀ t, n ≤ t → e[t]! = d[t]! := fun t ht => by
  rw [hr.get]
  congr 1
  unfold rotI
  rw [if_neg (by omega), if_neg (by omega)]
 refine ⟨fun i j ha hij hb => ?_, fun i j ha hij hb => ?_, fun i j ha hij hb => ?_, fun i j ha hij hb => ?_, fun i j ha hic hcj hjb => ?_⟩
 ·rw [g0 i (by omega), g0 j (by omega)]
  exact h.lo i j ha hij (by omega)
 ·rw [g1 i (by omega) (by omega), g1 j (by omega) (by omega)]
  exact h.hi _ _ (by omega) (by omega) (by omega)
 ·rw [g2 i (by omega) (by omega), g2 j (by omega) (by omega)]
  exact h.lo _ _ (by omega) (by omega) (by omega)
 ·rw [g3 i (by omega), g3 j (by omega)]
  exact h.hi i j (by omega) hij hb
 ·by_cases c1 : i < s
  ·rw [g0 i c1]
   by_cases c2 : j < n
   ·rw [g2 j hcj c2]
    exact h.lo _ _ ha (by omega) (by omega)
   ·rw [g3 j (by omega)]
    exact h.c1 i j ha c1 (by omega) hjb
  ·rw [g1 i (by omega) hic]
   by_cases c2 : j < n
   ·rw [g2 j hcj c2]
    exact h.c2 _ _ (by omega) (by omega) (by omega) (by omega)
   ·rw [g3 j (by omega)]
    exact h.hi _ _ (by omega) (by omega) hjb
/-- No rotation is wanted where one of the blocks is empty. -/
theorem rot_none (h : s = m ∨ m = n) (hsm : s ≤ m) (hmn : m ≤ n) : Rot s m n d d := by
 refine ⟨fun t => ?_, permIn_refl _ _ _⟩
 congr 1
 unfold rotI
 split
 ·omega
 split <;> omega
/-- The merge of one element with what lies above it. -/
theorem mrg_first (hO : SWO lt) (hm : a + 1 < b) (hb : b ≤ d.size) (h : SortedIn lt (a + 1) b d) {i : Nat} (h1 : a + 1 ≤ i) (h2 : i ≤ b) (h3 : ∀ t, a + 1 ≤ t → t < i → lt d[t]! d[a]! = true) (h4 : ∀ t, i ≤ t → t < b → lt d[t]! d[a]! = false) : Mrg lt a b d (upN d a (i - 1 - a)) := by
 have hr := upN_rot d a (i - 1 - a) (by omega)
 rw [show a + (i - 1 - a) + 1 = i by omega] at hr
 have hc : Cutd lt a a (a + 1) i b d := ⟨Nat.le_refl _, by omega, h1, h2, fun x y k1 k2 k3 => by omega, h, fun x y k1 k2 _ _ => by omega, fun x y k1 k2 k3 k4 => by
  obtain rfl : x = a := by omega
  exact hO.asymmA (h3 y k3 k4)⟩
 obtain ⟨_, r1, r2, r3, r4⟩ := hc.runs hr
 refine ⟨permIn_mono _ _ _ _ _ _ (Nat.le_refl _) h2 hb hr.perm, sorted_join r1 ?_ r4⟩
 refine sorted_join r2 r3 (fun x y k1 k2 k3 k4 => ?_)
 obtain rfl : x = i - 1 := by omega
 rw [hr.get, hr.get]
 have e1 : rotI a (a + 1) i (i - 1) = a := by unfold rotI; rw [if_neg (by omega), if_pos (by omega)]; omega
 have e2 : rotI a (a + 1) i y = y := by unfold rotI; rw [if_neg (by omega), if_neg (by omega)]
 rw [e1, e2]
 exact h4 y k3 k4
/-- The merge of one element with what lies below it. -/
theorem mrg_last (hO : SWO lt) (hm : a < m) (hb : m + 1 ≤ d.size) (h : SortedIn lt a m d) {i : Nat} (h1 : a ≤ i) (h2 : i ≤ m) (h3 : ∀ t, a ≤ t → t < i → lt d[m]! d[t]! = false) (h4 : ∀ t, i ≤ t → t < m → lt d[m]! d[t]! = true) : Mrg lt a (m + 1) d (downN d m (m - i)) := by
 have hr := downN_rot d m (by omega) (m - i) (by omega)
 rw [show m - (m - i) = i by omega] at hr
 have hc : Cutd lt a i m (m + 1) (m + 1) d := ⟨h1, h2, by omega, Nat.le_refl _, h, fun x y k1 k2 k3 => by omega, fun x y k1 k2 k3 k4 => by omega, fun x y k1 k2 k3 k4 => by
  obtain rfl : y = m := by omega
  exact hO.asymmA (h4 x k1 k2)⟩
 obtain ⟨r0, r1, r2, r3, r4⟩ := hc.runs hr
 refine ⟨permIn_mono _ _ _ _ _ _ h1 (Nat.le_refl _) hb hr.perm, sorted_join ?_ r2 r4⟩
 refine sorted_join r0 r1 (fun x y k1 k2 k3 k4 => ?_)
 obtain rfl : y = i := by omega
 rw [hr.get, hr.get]
 have e1 : rotI y m (m + 1) y = m := by unfold rotI; rw [if_pos (by omega)]; omega
 have e2 : rotI y m (m + 1) x = x := by unfold rotI; rw [if_neg (by omega), if_neg (by omega)]
 rw [e1, e2]
 exact h3 x k1 k2
/-- The merge: a rotation, then a merge of each half (or none where it is one run). -/
theorem Cutd.merged (h : Cutd lt a s m n b d) (hb : b ≤ d.size) (hr : Rot s m n d e) {e1 e2 : Array α} (k1 : Mrg lt a (s + (n - m)) e e1) (k2 : Mrg lt (s + (n - m)) b e1 e2) : Mrg lt a b d e2 := by
 have h1 := h.has
 have h2 := h.hsm
 have h3 := h.hmn
 have h4 := h.hnb
 obtain ⟨r0, r1, r2, r3, r4⟩ := h.runs hr
 have hs := hr.size
 have hs1 : e1.size = d.size := k1.perm.1.trans hs
 refine ⟨?_, sorted_join (fun i j ha hij hc => ?_) k2.sorted (crs_perm r4 (by omega) (by omega) (by omega) k1.perm k2.perm)⟩
 ·exact permIn_trans _ _ _ _ _ (permIn_mono _ _ _ _ _ _ h1 h4 hb hr.perm) (permIn_trans _ _ _ _ _ (permIn_mono _ _ _ _ _ _ (Nat.le_refl _) (by omega) (by omega) k1.perm) (permIn_mono _ _ _ _ _ _ (by omega) (Nat.le_refl _) (by omega) k2.perm))
 ·rw [k2.perm.2.1 i (.inl (by omega)), k2.perm.2.1 j (.inl (by omega))]
  exact k1.sorted i j ha hij hc
/-- A half that is one run is merged. -/
theorem Mrg.refl {lo hi : Nat} {f : Array α} (h : SortedIn lt lo hi f) : Mrg lt lo hi f f := ⟨permIn_refl _ _ _, h⟩
theorem sorted_empty {lo hi : Nat} {f : Array α} (h : hi ≤ lo + 1) : SortedIn lt lo hi f := fun i j h1 h2 h3 => by omega
end
/-! ### symMerge's search -/
/-- The search's bounds: of c in [s0, r0) those below x are settled the one way, those from y on the other. -/
structure Srch (lt : α → α → Bool) (d : Array α) (p s0 r0 x y : Nat) : Prop where
 hx : s0 ≤ x
 hxy : x ≤ y
 hy : y ≤ r0
 below : ∀ c, s0 ≤ c → c < x → lt d[p - c]! d[c]! = false
 above : ∀ c, y ≤ c → c < r0 → lt d[p - c]! d[c]! = true
section
variable {a m b : Nat} {d : Array α}
/-- The place where the search begins and where it ends. -/
def sStart (a m b : Nat) : Nat := if m > (a + b) / 2 then (a + b) / 2 + m - b else a
def sEnd (a m b : Nat) : Nat := if m > (a + b) / 2 then (a + b) / 2 else m
theorem srch_start : sStart a m b ≤ sEnd a m b → Srch lt d ((a + b) / 2 + m - 1) (sStart a m b) (sEnd a m b) (sStart a m b) (sEnd a m b) := fun h => ⟨Nat.le_refl _, h, Nat.le_refl _, fun c h1 h2 => by omega, fun c h1 h2 => by omega⟩
theorem s_le (h1 : a < m) (h2 : m < b) : sStart a m b ≤ sEnd a m b := by unfold sStart sEnd; split <;> omega
theorem s_bounds (h1 : a < m) (h2 : m < b) {c : Nat} (h3 : sStart a m b ≤ c) (h4 : c < sEnd a m b) : a ≤ c ∧ c < m ∧ m ≤ (a + b) / 2 + m - 1 - c ∧ (a + b) / 2 + m - 1 - c < b := by
 unfold sStart at h3
 unfold sEnd at h4
 split at h3 <;> split at h4 <;> omega
theorem Srch.less (hO : SWO lt) (lo : SortedIn lt a m d) (hi : SortedIn lt m b d) (h1 : a < m) (h2 : m < b) {x y c : Nat} (h : Srch lt d ((a + b) / 2 + m - 1) (sStart a m b) (sEnd a m b) x y) (hc1 : x ≤ c) (hc2 : c < y) (hl : lt d[(a + b) / 2 + m - 1 - c]! d[c]! = false) : Srch lt d ((a + b) / 2 + m - 1) (sStart a m b) (sEnd a m b) (c + 1) y := by
 have k1 := h.hx
 have k3 := h.hy
 refine ⟨by omega, by omega, k3, fun t ht ht2 => ?_, h.above⟩
 by_cases h3 : t < x
 ·exact h.below t ht h3
 have b1 := s_bounds h1 h2 ht (show t < sEnd a m b by omega)
 have b2 := s_bounds h1 h2 (show sStart a m b ≤ c by omega) (show c < sEnd a m b by omega)
 have l1 := sorted_le hO lo b1.1 (show t ≤ c by omega) b2.2.1
 have l2 := sorted_le hO hi b2.2.2.1 (show (a + b) / 2 + m - 1 - c ≤ (a + b) / 2 + m - 1 - t by omega) b1.2.2.2
 exact hO.ntrans _ _ _ (hO.ntrans _ _ _ l2 hl) l1
theorem lt_of_lt_le (hO : SWO lt) {x y z : α} (h1 : lt x y = true) (h2 : lt z y = false) : lt x z = true := by
 cases h : lt x z
 ·have := hO.ntrans _ _ _ h h2
  rw [this] at h1
  cases h1
 ·rfl
theorem lt_of_le_lt (hO : SWO lt) {x y z : α} (h1 : lt y x = false) (h2 : lt y z = true) : lt x z = true := by
 cases h : lt x z
 ·have := hO.ntrans _ _ _ h1 h
  rw [this] at h2
  cases h2
 ·rfl
theorem Srch.more (hO : SWO lt) (lo : SortedIn lt a m d) (hi : SortedIn lt m b d) (h1 : a < m) (h2 : m < b) {x y c : Nat} (h : Srch lt d ((a + b) / 2 + m - 1) (sStart a m b) (sEnd a m b) x y) (hc1 : x ≤ c) (hc2 : c < y) (hl : lt d[(a + b) / 2 + m - 1 - c]! d[c]! = true) : Srch lt d ((a + b) / 2 + m - 1) (sStart a m b) (sEnd a m b) x c := by
 have k1 := h.hx
 have k3 := h.hy
 refine ⟨k1, hc1, by omega, h.below, fun t ht ht2 => ?_⟩
 by_cases h3 : y ≤ t
 ·exact h.above t h3 ht2
 have b1 := s_bounds h1 h2 (show sStart a m b ≤ t by omega) ht2
 have b2 := s_bounds h1 h2 (show sStart a m b ≤ c by omega) (show c < sEnd a m b by omega)
 have l1 := sorted_le hO lo b2.1 ht b1.2.1
 have l2 := sorted_le hO hi b1.2.2.1 (show (a + b) / 2 + m - 1 - t ≤ (a + b) / 2 + m - 1 - c by omega) b2.2.2.2
 exact lt_of_lt_le hO (lt_of_le_lt hO l2 hl) l1
/-- Behind the search: the cut. -/
theorem Srch.cut (hO : SWO lt) (lo : SortedIn lt a m d) (hi : SortedIn lt m b d) (h1 : a < m) (h2 : m < b) {x : Nat} (h : Srch lt d ((a + b) / 2 + m - 1) (sStart a m b) (sEnd a m b) x x) : Cutd lt a x m ((a + b) / 2 + m - x) b d ∧ x + ((a + b) / 2 + m - x - m) = (a + b) / 2 := by
 have k1 := h.hx
 have k3 := h.hy
 have hs : (a ≤ sStart a m b ∧ sEnd a m b ≤ m) ∧ (sStart a m b = a ∨ (a + b) / 2 + m - sStart a m b = b) ∧ (sEnd a m b = m ∨ (a + b) / 2 + m - sEnd a m b = m) ∧ sEnd a m b ≤ (a + b) / 2 ∧ (a + b) / 2 + m ≤ b + sStart a m b := by
  unfold sStart sEnd
  split <;> omega
 obtain ⟨⟨hs1, hs2⟩, hs3, hs4, hs5, hs6⟩ := hs
 refine ⟨⟨by omega, by omega, by omega, by omega, lo, hi, fun i j q1 q2 q3 q4 => ?_, fun i j q1 q2 q3 q4 => ?_⟩, by omega⟩
 ·-- [a, x) against [n - x, b): by the element x - 1
  by_cases hx0 : x = sStart a m b
  ·exfalso
   rcases hs3 with hs3 | hs3 <;> omega
  ·have hb := h.below (x - 1) (by omega) (by omega)
   have b1 := s_bounds h1 h2 (show sStart a m b ≤ x - 1 by omega) (show x - 1 < sEnd a m b by omega)
   have l1 := sorted_le hO lo q1 (show i ≤ x - 1 by omega) b1.2.1
   have l2 := sorted_le hO hi b1.2.2.1 (show (a + b) / 2 + m - 1 - (x - 1) ≤ j by omega) q4
   exact hO.ntrans _ _ _ (hO.ntrans _ _ _ l2 hb) l1
 ·by_cases hx0 : x = sEnd a m b
  ·exfalso
   rcases hs4 with hs4 | hs4 <;> omega
  ·have hb := h.above x (Nat.le_refl _) (by omega)
   have b1 := s_bounds h1 h2 k1 (show x < sEnd a m b by omega)
   have l1 := sorted_le hO lo b1.1 q1 q2
   have l2 := sorted_le hO hi q3 (show j ≤ (a + b) / 2 + m - 1 - x by omega) b1.2.2.2
   exact hO.asymmA (lt_of_lt_le hO (lt_of_le_lt hO l2 hb) l1)
end
/-! ### The blocks -/
/-- The blocks of a length, each ascending. -/
def Blks (lt : α → α → Bool) (s n : Nat) (d : Array α) : Prop := ∀ k, SortedIn lt (s * k) (min (s * k + s) n) d
theorem blks_all {s n : Nat} {d : Array α} (h : Blks lt s n d) (hs : n ≤ s) : SortedIn lt 0 n d := by
 have := h 0
 rw [Nat.mul_zero, Nat.zero_add, Nat.min_eq_right hs] at this
 exact this
end Go.Proofs.Ytmflggbpiadkjaa.P

/- The contract of slices.swapRangeCmpFunc at cells. -/
namespace Go.Proofs.Ytmflggbpiadkjaa.P
open Go.RowKit Go.Sort Go.Proofs.YtmflggbpiadkjaaW.PrintWords Go.Proofs.YtmflggbpiadkjaaW.PrintLast Go.Proofs.YtmflggbpiadkjaaW.PrintMore
set_option linter.unusedVariables false
set_option linter.unusedSimpArgs false
instance : Inhabited S34 := ⟨z34⟩
/-- An element's cells. -/
def e34 (x : S34) : List Value := [.string x.f0.f0, .string x.f0.f1, .string x.f0.f2, .string x.f0.f3, .string x.f0.f4, .int .i64 x.f1, .int .i64 x.f2]
theorem e34_len (x : S34) : (e34 x).length = 7 := rfl
theorem e34_one (x : S34) : ∀ v ∈ e34 x, v.oneCell' = true := by
 intro v hv
 simp only [e34, List.mem_cons, List.not_mem_nil, or_false] at hv
 rcases hv with rfl | rfl | rfl | rfl | rfl | rfl | rfl <;> rfl
section
variable {w0 W : World} {blk off : Nat} {dk d0 : Array S34}
theorem with_world {P : World → Prop} (W : World) (h : ∀ w2, w2 = W → P w2) : P W := h W rfl
/-- The cells of the element at i. -/
structure At34 (W : World) (blk off i : Nat) (x : S34) : Prop where
 c0 : W.cell? ⟨blk, off + i * 7, none⟩ = some (.string x.f0.f0)
 c1 : W.cell? ⟨blk, off + i * 7 + 1, none⟩ = some (.string x.f0.f1)
 c2 : W.cell? ⟨blk, off + i * 7 + 2, none⟩ = some (.string x.f0.f2)
 c3 : W.cell? ⟨blk, off + i * 7 + 3, none⟩ = some (.string x.f0.f3)
 c4 : W.cell? ⟨blk, off + i * 7 + 4, none⟩ = some (.string x.f0.f4)
 c5 : W.cell? ⟨blk, off + i * 7 + 5, none⟩ = some (.int .i64 x.f1)
 c6 : W.cell? ⟨blk, off + i * 7 + 6, none⟩ = some (.int .i64 x.f2)
theorem sets34 (W : World) (blk P : Nat) (x : S34) : W.setCells blk P (e34 x) = ((((((W.setCell ⟨blk, P, none⟩ (.string x.f0.f0)).setCell ⟨blk, P + 1, none⟩ (.string x.f0.f1)).setCell ⟨blk, P + 2, none⟩ (.string x.f0.f2)).setCell ⟨blk, P + 3, none⟩ (.string x.f0.f3)).setCell ⟨blk, P + 4, none⟩ (.string x.f0.f4)).setCell ⟨blk, P + 5, none⟩ (.int .i64 x.f1)).setCell ⟨blk, P + 6, none⟩ (.int .i64 x.f2) := rfl
theorem set_drew (W : World) (p : Addr) (u : Value) : W.drew.setCell p u = (W.setCell p u).drew := rfl
structure Fr34 (W : World) (blk off i : Nat) : Prop where
 f0 : W.frozen? ⟨blk, off + i * 7, none⟩ = false
 f1 : W.frozen? ⟨blk, off + i * 7 + 1, none⟩ = false
 f2 : W.frozen? ⟨blk, off + i * 7 + 2, none⟩ = false
 f3 : W.frozen? ⟨blk, off + i * 7 + 3, none⟩ = false
 f4 : W.frozen? ⟨blk, off + i * 7 + 4, none⟩ = false
 f5 : W.frozen? ⟨blk, off + i * 7 + 5, none⟩ = false
 f6 : W.frozen? ⟨blk, off + i * 7 + 6, none⟩ = false
theorem sw_at (h : SWK e34 7 w0 blk off dk W) (R : RowK e34 7 w0 blk off d0) (hs : dk.size = d0.size) {i : Nat} (hi : i < dk.size) : At34 W blk off i dk[i]! ∧ Fr34 W blk off i := by
 have hH := h.holds R.hblk R.hH hs
 refine ⟨⟨?_, ?_, ?_, ?_, ?_, ?_, ?_⟩, ⟨?_, ?_, ?_, ?_, ?_, ?_, ?_⟩⟩
 ·exact (hH.cell hi (show 0 < 7 by decide)).1
 ·exact (hH.cell hi (show 1 < 7 by decide)).1
 ·exact (hH.cell hi (show 2 < 7 by decide)).1
 ·exact (hH.cell hi (show 3 < 7 by decide)).1
 ·exact (hH.cell hi (show 4 < 7 by decide)).1
 ·exact (hH.cell hi (show 5 < 7 by decide)).1
 ·exact (hH.cell hi (show 6 < 7 by decide)).1
 ·exact (hH.cell hi (show 0 < 7 by decide)).2
 ·exact (hH.cell hi (show 1 < 7 by decide)).2
 ·exact (hH.cell hi (show 2 < 7 by decide)).2
 ·exact (hH.cell hi (show 3 < 7 by decide)).2
 ·exact (hH.cell hi (show 4 < 7 by decide)).2
 ·exact (hH.cell hi (show 5 < 7 by decide)).2
 ·exact (hH.cell hi (show 6 < 7 by decide)).2
end
set_option maxHeartbeats 4000000 in
set_option maxRecDepth 1000000 in
theorem swapRange_calls (blk off cap a b n : Nat) (d0 d : Array S34) (w0 w : World) (cmp : Value) (R : RowK e34 7 w0 blk off d0) (hs : d0.size = d.size) (S : SWK e34 7 w0 blk off d w) (h1 : a + n ≤ b) (h2 : b + n ≤ d.size) (hsz : d.size < 2305843009213693952) :
  Calls Try.prog 104 #[.slice (some ⟨blk, off, none⟩) d.size cap, .int .i64 a, .int .i64 b, .int .i64 n, cmp] w fun e w' => e = .returned (.tuple #[]) ∧ SWK e34 7 w0 blk off (swpN d a b n) w' := by
 have S0 := Aside0.mk S
 have HR := Aside0.mk R
 clear S R
 go_enter Try.func104, Try.ntmps104
 go_wp2
 go_loopw [10, 11, 12, 13, 14, 15, 16, 17, 18, 19, 20, 21, 22, 23, 24, 25, 26, 27, 28, 29, 30, 31, 32, 33, 34, 35, 36, 37] (fun v10 _ _ _ _ _ _ _ _ _ _ _ _ _ _ _ _ _ _ _ _ _ _ _ _ _ _ _ wr => ∃ i : Nat, i ≤ n ∧ v10 = .int .i64 i ∧ Aside0 (SWK e34 7 w0 blk off (swpN d a b i) wr)) (fun v10 _ _ _ _ _ _ _ _ _ _ _ _ _ _ _ _ _ _ _ _ _ _ _ _ _ _ _ _ => n - (intOf v10).toNat)
 case atStart => exact ⟨0, Nat.zero_le _, rfl, S0⟩
 case round =>
  clear S0
  obtain ⟨i, hi, rfl, S1⟩ := hrel
  by_cases hlt : i < n
  ·have d1 : decide ((i : Int) < (n : Int)) = true := decide_eq_true (by omega)
   have d2 : decide (i < n) = true := decide_eq_true hlt
   have hdz : (swpN d a b i).size = d.size := swpN_size d a b i
   obtain ⟨x, hx⟩ : ∃ x, (swpN d a b i)[a + i]! = x := ⟨_, rfl⟩
   obtain ⟨y, hy⟩ : ∃ y, (swpN d a b i)[b + i]! = y := ⟨_, rfl⟩
   have hsw := S1.out.swapped HR.out (a + i) (b + i) (by omega) (by omega)
   rw [hx, hy, sets34, sets34] at hsw
   simp only [set_drew] at hsw
   have HSW := Aside0.mk hsw
   obtain ⟨cx, fx⟩ := sw_at S1.out HR.out (by omega) (show a + i < (swpN d a b i).size by omega)
   obtain ⟨cy, fy⟩ := sw_at S1.out HR.out (by omega) (show b + i < (swpN d a b i).size by omega)
   rw [hx] at cx
   rw [hy] at cy
   have e1 : ((a : Int) + (i : Int)).toNat = a + i := by omega
   have e2 : ((b : Int) + (i : Int)).toNat = b + i := by omega
   have r1 : IntKind.i64.wrap ((a : Int) + (i : Int)) = (a : Int) + (i : Int) := by rw [IntKind.wrap_i64]; omega
   have r2 : IntKind.i64.wrap ((b : Int) + (i : Int)) = (b : Int) + (i : Int) := by rw [IntKind.wrap_i64]; omega
   have p1 : (0 : Int) ≤ (a : Int) + (i : Int) := by omega
   have p2 : (0 : Int) ≤ (b : Int) + (i : Int) := by omega
   have p3 : (a : Int) + (i : Int) < (d.size : Int) := by omega
   have p4 : (b : Int) + (i : Int) < (d.size : Int) := by omega
   obtain ⟨x0, x1, x2, x3, x4, x5, x6⟩ := cx
   obtain ⟨y0, y1, y2, y3, y4, y5, y6⟩ := cy
   obtain ⟨fx0, fx1, fx2, fx3, fx4, fx5, fx6⟩ := fx
   obtain ⟨fy0, fy1, fy2, fy3, fy4, fy5, fy6⟩ := fy
   have HX := Aside0.mk hx
   have HY := Aside0.mk hy
   have HDZ := Aside0.mk hdz
   clear hx hy hdz hsw
   go_wp2_with fail
   have mixed : Try.prog.follows .mixedOrders = true := by kernel_rfl
   go_big_region_o
   refine with_world (P := fun x => Exit.inBlock _ _ _ _ x) _ ?_
   intro w2 hw2
   have S2 := Aside0.mk (show SWK e34 7 w0 blk off (swpN d a b (i + 1)) w2 from by rw [hw2]; exact HSW.out)
   clear hw2 HSW S1 x0 x1 x2 x3 x4 x5 x6 y0 y1 y2 y3 y4 y5 y6 fx0 fx1 fx2 fx3 fx4 fx5 fx6 fy0 fy1 fy2 fy3 fy4 fy5 fy6
   go_wp2
   go_roundw
   case rel => exact ⟨i + 1, by omega, by go_num, S2⟩
   case measure => simp [intOf]; omega
  ·obtain rfl : i = n := by omega
   have d1 : decide ((i : Int) < (i : Int)) = false := decide_eq_false (by omega)
   go_wp2
   go_end0
   exact ⟨rfl, S1.out⟩
end Go.Proofs.Ytmflggbpiadkjaa.P

/- The contracts of strings.Compare, sheet.parts and sheet.Cmp. -/
namespace Go.Proofs.Ytmflggbpiadkjaa.P
open Go.RowKit Go.Sort Go.Proofs.YtmflggbpiadkjaaW.PrintWords Go.Proofs.YtmflggbpiadkjaaW.PrintLast Go.Proofs.YtmflggbpiadkjaaW.PrintMore
set_option linter.unusedVariables false
set_option linter.unusedSimpArgs false
/-! ### What a call may do that turns nothing: draws, and blocks of its own -/
def Grw (w w' : World) : Prop := ∃ q os, w' = grow (w.drewN q) os
theorem Grw.refl (w : World) : Grw w w := ⟨0, #[], by rw [grow_empty]; rfl⟩
theorem Grw.trans {a b c : World} (h : Grw a b) (k : Grw b c) : Grw a c := by
 obtain ⟨q, os, rfl⟩ := h
 obtain ⟨q2, os2, rfl⟩ := k
 exact ⟨q + q2, os ++ os2, by show grow (grow ((a.drewN q).drewN q2) os) os2 = _; rw [grow_grow, World.drewN_drewN]⟩
theorem Grw.alloc {a w : World} (h : Grw a w) (o : Obj) : Grw a (w.alloc o) := h.trans ⟨0, #[o], by rw [alloc_eq_grow]; rfl⟩
theorem Grw.drew {a w : World} (h : Grw a w) : Grw a w.drew := h.trans ⟨1, #[], by rw [grow_empty]; rfl⟩
theorem Grw.drewN {a w : World} (h : Grw a w) (n : Nat) : Grw a (w.drewN n) := h.trans ⟨n, #[], by rw [grow_empty]⟩
theorem Grw.below {w w' : World} (h : Grw w w') : Below w.heap.size w w' := by
 obtain ⟨q, os, rfl⟩ := h
 refine ⟨rfl, rfl, rfl, by rw [size_grow]; exact Nat.le_add_right _ _, fun k hk => ?_⟩
 exact heap_grow_old (w.drewN q) os hk
theorem keep_grow {W : World} {n : Nat} {os : Array Obj} {a : Addr} {v : Value} (h : W.cell? a = some v) : (grow (W.drewN n) os).cell? a = some v := by rw [cell?_grow _ _ _ (by exact World.block_lt_of_cell? W a h)]; exact h
theorem keep_alloc {W : World} {o : Obj} {a : Addr} {v : Value} (h : W.cell? a = some v) : (W.alloc o).cell? a = some v := (World.cell?_alloc_lt W o a (World.block_lt_of_cell? W a h)).trans h
theorem keep_drewN {W : World} {n : Nat} {a : Addr} {v : Value} (h : W.cell? a = some v) : (W.drewN n).cell? a = some v := h
theorem keep_drew {W : World} {a : Addr} {v : Value} (h : W.cell? a = some v) : W.drew.cell? a = some v := h
def cmpB (a b : ByteArray) : Int := Lib.compareBytes a.data.toList b.data.toList
set_option maxRecDepth 100000 in
theorem compareString_calls (a b : ByteArray) (w : World) : Calls Try.prog 84 #[.string a, .string b] w fun e w' => e = .returned (.int .i64 (cmpB a b)) ∧ w' = w := by
 go_enter Try.func84, Try.ntmps84
 go_wp2
 rw [run_callFunc_extern Try.func98 (by kernel_rfl) (by kernel_rfl) (by kernel_rfl) (e := Extern.BytealgCompare.compare) (by kernel_rfl), Lib.run_compareString]
 simp only [Result.andThen]
 rw [Oper.upon_value]
 go_wp2
 go_ret
 exact ⟨rfl, rfl⟩
theorem compare_calls (a b : ByteArray) (w : World) : Calls Try.prog 66 #[.string a, .string b] w fun e w' => e = .returned (.int .i64 (cmpB a b)) ∧ w' = w := by
 go_enter Try.func66, Try.ntmps66
 go_wp2_with (go_at_call 84; refine (compareString_calls a b _).mono ?_; rintro e w' ⟨rfl, rfl⟩)
 go_ret
 exact ⟨rfl, rfl⟩
set_option maxHeartbeats 2000000 in
theorem parts_calls (x : S32) (w : World) : Calls Try.prog 65 #[.agg #[.string x.f0, .string x.f1, .string x.f2, .string x.f3, .string x.f4]] w fun e w' => e = .returned (.agg #[.string x.f0, .string x.f1, .string x.f2, .string x.f3, .string x.f4]) ∧ w' = (w.alloc (.cells #[.string x.f0, .string x.f1, .string x.f2, .string x.f3, .string x.f4] 32)).alloc (.cells #[.string x.f0, .string x.f1, .string x.f2, .string x.f3, .string x.f4] 78) := by
 go_enter Try.func65, Try.ntmps65
 go_wp2
 refine bodyPost_ret (v := .agg #[.string x.f0, .string x.f1, .string x.f2, .string x.f3, .string x.f4]) (by simp [results, Try.results65, go_sem]) rfl ?_
 exact ⟨rfl, rfl⟩
theorem blk_newAt (w : World) (o : Obj) (n : Nat) (h : n = w.heap.size) : (w.alloc o).heap[n]? = some o := by rw [h]; exact blk_new w o
def kfld (x : S32) : Nat → ByteArray
 | 0 => x.f0
 | 1 => x.f1
 | 2 => x.f2
 | 3 => x.f3
 | _ => x.f4
def cmpL : List (ByteArray × ByteArray) → Int
 | [] => 0
 | p :: r => if cmpB p.1 p.2 = 0 then cmpL r else cmpB p.1 p.2
def flds (x y : S32) : List (ByteArray × ByteArray) := [(x.f0, y.f0), (x.f1, y.f1), (x.f2, y.f2), (x.f3, y.f3), (x.f4, y.f4)]
/-- The order of the keys. -/
def cmpK (x y : S32) : Int := cmpL (flds x y)
theorem flds_drop (x y : S32) {k : Nat} (h : k < 5) : (flds x y).drop k = (kfld x k, kfld y k) :: (flds x y).drop (k + 1) := by
 rcases (by omega : k = 0 ∨ k = 1 ∨ k = 2 ∨ k = 3 ∨ k = 4) with rfl | rfl | rfl | rfl | rfl <;> rfl
theorem arr_cell {w : World} {b : Nat} {x : S32} (h : w.heap[b]? = some (.cells #[.string x.f0, .string x.f1, .string x.f2, .string x.f3, .string x.f4] 78 (0, 0))) {k : Nat} (hk : k < 5) : w.cell? ⟨b, k, none⟩ = some (.string (kfld x k)) := by
 refine (blk_cell h k).trans ?_
 rcases (by omega : k = 0 ∨ k = 1 ∨ k = 2 ∨ k = 3 ∨ k = 4) with rfl | rfl | rfl | rfl | rfl <;> rfl
set_option maxHeartbeats 8000000 in
set_option maxRecDepth 100000 in
theorem cmp_calls (x y : S32) (w : World) : Calls Try.prog 29 #[.agg #[.string x.f0, .string x.f1, .string x.f2, .string x.f3, .string x.f4], .agg #[.string y.f0, .string y.f1, .string y.f2, .string y.f3, .string y.f4]] w fun e w' => e = .returned (.int .i64 (cmpK x y)) ∧ Grw w w' := by
 go_enter Try.func29, Try.ntmps29
 go_upto_region 1 with (fail)
 refine with_world (P := fun x => Code.wp _ _ _ _ x) _ ?_
 intro w1 hw1
 obtain ⟨g, hg⟩ : ∃ g, w.heap.size = g := ⟨_, rfl⟩
 have BX := Aside0.mk (show w1.heap[g]? = some (.cells #[.string x.f0, .string x.f1, .string x.f2, .string x.f3, .string x.f4] 32 (0, 0)) from by rw [hw1, ← hg]; exact blk_alloc (blk_new w _) _)
 have BY := Aside0.mk (show w1.heap[g + 1]? = some (.cells #[.string y.f0, .string y.f1, .string y.f2, .string y.f3, .string y.f4] 32 (0, 0)) from by
  rw [hw1, ← hg]
  have := blk_new (w.alloc (.cells #[.string x.f0, .string x.f1, .string x.f2, .string x.f3, .string x.f4] 32)) (.cells #[.string y.f0, .string y.f1, .string y.f2, .string y.f3, .string y.f4] 32)
  rwa [show (w.alloc (.cells #[.string x.f0, .string x.f1, .string x.f2, .string x.f3, .string x.f4] 32)).heap.size = w.heap.size + 1 by simp] at this)
 have HG := Aside0.mk (show Grw w w1 from by rw [hw1]; exact ((Grw.refl w).alloc _).alloc _)
 rw [hg]
 clear hw1 hg
 have x0 : w1.cell? ⟨g, 0, none⟩ = some (.string x.f0) := (blk_cell BX.out 0).trans rfl
 have x1 : w1.cell? ⟨g, 1, none⟩ = some (.string x.f1) := (blk_cell BX.out 1).trans rfl
 have x2 : w1.cell? ⟨g, 2, none⟩ = some (.string x.f2) := (blk_cell BX.out 2).trans rfl
 have x3 : w1.cell? ⟨g, 3, none⟩ = some (.string x.f3) := (blk_cell BX.out 3).trans rfl
 have x4 : w1.cell? ⟨g, 4, none⟩ = some (.string x.f4) := (blk_cell BX.out 4).trans rfl
 have y0 : w1.cell? ⟨g + 1, 0, none⟩ = some (.string y.f0) := (blk_cell BY.out 0).trans rfl
 have y1 : w1.cell? ⟨g + 1, 1, none⟩ = some (.string y.f1) := (blk_cell BY.out 1).trans rfl
 have y2 : w1.cell? ⟨g + 1, 2, none⟩ = some (.string y.f2) := (blk_cell BY.out 2).trans rfl
 have y3 : w1.cell? ⟨g + 1, 3, none⟩ = some (.string y.f3) := (blk_cell BY.out 3).trans rfl
 have y4 : w1.cell? ⟨g + 1, 4, none⟩ = some (.string y.f4) := (blk_cell BY.out 4).trans rfl
 go_cut [5, 6, 9, 10, 11, 12] (fun v5 v6 _ _ _ _ wc => ∃ b c, v5 = .pointer (some ⟨b, 0, none⟩) ∧ v6 = .pointer (some ⟨c, 0, none⟩) ∧ Aside0 (wc.heap[b]? = some (.cells #[.string x.f0, .string x.f1, .string x.f2, .string x.f3, .string x.f4] 78 (0, 0))) ∧ Aside0 (wc.heap[c]? = some (.cells #[.string y.f0, .string y.f1, .string y.f2, .string y.f3, .string y.f4] 78 (0, 0))) ∧ Aside0 (Grw w wc))
 case first =>
  go_region_held3 (fun w' => w'.cell? ⟨g, 0, none⟩ = some (.string x.f0) ∧ w'.cell? ⟨g, 1, none⟩ = some (.string x.f1) ∧ w'.cell? ⟨g, 2, none⟩ = some (.string x.f2) ∧ w'.cell? ⟨g, 3, none⟩ = some (.string x.f3) ∧ w'.cell? ⟨g, 4, none⟩ = some (.string x.f4) ∧ w'.cell? ⟨g + 1, 0, none⟩ = some (.string y.f0) ∧ w'.cell? ⟨g + 1, 1, none⟩ = some (.string y.f1) ∧ w'.cell? ⟨g + 1, 2, none⟩ = some (.string y.f2) ∧ w'.cell? ⟨g + 1, 3, none⟩ = some (.string y.f3) ∧ w'.cell? ⟨g + 1, 4, none⟩ = some (.string y.f4)) (exact ⟨by (repeat (with_reducible first | apply keep_drew | apply keep_alloc)); with_reducible exact x0, by (repeat (with_reducible first | apply keep_drew | apply keep_alloc)); with_reducible exact x1, by (repeat (with_reducible first | apply keep_drew | apply keep_alloc)); with_reducible exact x2, by (repeat (with_reducible first | apply keep_drew | apply keep_alloc)); with_reducible exact x3, by (repeat (with_reducible first | apply keep_drew | apply keep_alloc)); with_reducible exact x4, by (repeat (with_reducible first | apply keep_drew | apply keep_alloc)); with_reducible exact y0, by (repeat (with_reducible first | apply keep_drew | apply keep_alloc)); with_reducible exact y1, by (repeat (with_reducible first | apply keep_drew | apply keep_alloc)); with_reducible exact y2, by (repeat (with_reducible first | apply keep_drew | apply keep_alloc)); with_reducible exact y3, by (repeat (with_reducible first | apply keep_drew | apply keep_alloc)); with_reducible exact y4⟩) (first | (go_at_call 65; (with_reducible refine (parts_calls x _).mono ?_); rintro e w' ⟨rfl, rfl⟩) | (go_at_call 65; (with_reducible refine (parts_calls y _).mono ?_); rintro e w' ⟨rfl, rfl⟩))
  all_goals
   go_wp2
   go_meet
   case rel =>
    refine ⟨_, _, rfl, rfl, ⟨?_⟩, ⟨?_⟩, ⟨?_⟩⟩
    ·(repeat (first | with_reducible refine blk_drew ?_ | (refine blk_newAt _ _ _ ?_; simp; done) | with_reducible refine blk_alloc ?_ _))
    ·(repeat (first | with_reducible refine blk_drew ?_ | (refine blk_newAt _ _ _ ?_; simp; done) | with_reducible refine blk_alloc ?_ _))
    ·(repeat (first | exact HG.out | with_reducible apply Grw.drew | with_reducible apply Grw.alloc))
 case rest =>
  obtain ⟨b, c, rfl, rfl, HB, HC, HGW⟩ := hcut
  clear x0 x1 x2 x3 x4 y0 y1 y2 y3 y4 BX BY
  have HG2 := HGW
  clear HG HGW
  have HE0 := Aside0.mk (show cmpL ((flds x y).drop 0) = cmpK x y from rfl)
  go_wp2
  go_loopw [7, 8, 13, 14, 15, 16, 17, 18, 19, 20, 21, 22, 23, 24, 25, 26] (fun _ _ v13 _ _ _ _ _ _ _ _ _ _ _ _ _ wr => ∃ k : Nat, k ≤ 5 ∧ v13 = .int .i64 k ∧ Aside0 (cmpL ((flds x y).drop k) = cmpK x y) ∧ Aside0 (wr.heap[b]? = some (.cells #[.string x.f0, .string x.f1, .string x.f2, .string x.f3, .string x.f4] 78 (0, 0))) ∧ Aside0 (wr.heap[c]? = some (.cells #[.string y.f0, .string y.f1, .string y.f2, .string y.f3, .string y.f4] 78 (0, 0))) ∧ Aside0 (Grw w wr)) (fun _ _ v13 _ _ _ _ _ _ _ _ _ _ _ _ _ _ => 5 - (intOf v13).toNat)
  case atStart => exact ⟨0, by omega, rfl, HE0, HB, HC, HG2⟩
  case round =>
   clear HE0 HB HC HG2
   obtain ⟨k, hk, rfl, HE, HB, HC, HG⟩ := hrel
   by_cases hlt : k < 5
   ·have d1 : decide ((k : Int) < 5) = true := decide_eq_true (by omega)
    have d2 : decide (k < 5) = true := decide_eq_true hlt
    have p0 : (0 : Int) ≤ (k : Int) := by omega
    have p1 : (k : Int) < 5 := by omega
    have hd := HE.out
    rw [flds_drop x y hlt] at hd
    have hd : (if cmpB (kfld x k) (kfld y k) = 0 then cmpL ((flds x y).drop (k + 1)) else cmpB (kfld x k) (kfld y k)) = cmpK x y := hd
    have qb : wr.cell? ⟨b, k, none⟩ = some (.string (kfld x k)) := arr_cell HB.out hlt
    have qc : wr.cell? ⟨c, k, none⟩ = some (.string (kfld y k)) := arr_cell HC.out hlt
    obtain ⟨u, hu⟩ : ∃ u, kfld x k = u := ⟨_, rfl⟩
    obtain ⟨v, hv⟩ : ∃ v, kfld y k = v := ⟨_, rfl⟩
    rw [hu] at hd qb
    rw [hv] at hd qc
    clear hu hv
    obtain ⟨z, hz⟩ : ∃ z, cmpB u v = z := ⟨_, rfl⟩
    rw [hz] at hd
    have HZ := Aside0.mk hz
    clear hz
    go_wp2
    go_quiet ((go_at_call 66; (refine (compare_calls u v _).mono ?_); rw [HZ.out]; rintro e_ w_ ⟨rfl, rfl⟩; exact ⟨rfl, _, rfl⟩))
    by_cases hz0 : z = 0
    ·have dz : (z != (0 : Int)) = false := bne_eq_false_iff_eq.mpr hz0
     rw [if_pos hz0] at hd
     have HD := Aside0.mk hd
     clear hd hz0
     go_wp2
     go_roundw
     case rel => exact ⟨k + 1, by omega, by go_num, HD, HB, HC, ⟨HG.out.drewN _⟩⟩
     case measure => simp [intOf]; omega
    ·have dz : (z != (0 : Int)) = true := bne_iff_ne.mpr hz0
     rw [if_neg hz0] at hd
     subst hd
     clear hz0
     go_wp2
     go_ret
     exact ⟨rfl, HG.out.drewN _⟩
   ·obtain rfl : k = 5 := by omega
    have hd : (0 : Int) = cmpK x y := HE.out
    have HD := Aside0.mk hd
    clear hd
    go_wp2
    go_ret
    exact ⟨congrArg (fun z => Ending.returned (Value.int .i64 z)) HD.out, HG.out⟩
end Go.Proofs.Ytmflggbpiadkjaa.P

/- The contracts of grouped's comparison and of Of's key. -/
namespace Go.Proofs.Ytmflggbpiadkjaa.P
open Go.RowKit Go.Sort Go.Proofs.YtmflggbpiadkjaaW.PrintWords Go.Proofs.YtmflggbpiadkjaaW.PrintLast Go.Proofs.YtmflggbpiadkjaaW.PrintMore
set_option linter.unusedVariables false
set_option linter.unusedSimpArgs false
set_option maxHeartbeats 2000000 in
set_option maxRecDepth 100000 in
theorem key_calls (x : S34) (w : World) : Calls Try.prog 56 #[.agg #[.string x.f0.f0, .string x.f0.f1, .string x.f0.f2, .string x.f0.f3, .string x.f0.f4, .int .i64 x.f1, .int .i64 x.f2]] w fun e w' => e = .returned (.agg #[.string x.f0.f0, .string x.f0.f1, .string x.f0.f2, .string x.f0.f3, .string x.f0.f4]) ∧ Grw w w' := by
 go_enter Try.func56, Try.ntmps56
 go_wp2
 refine bodyPost_ret (v := .agg #[.string x.f0.f0, .string x.f0.f1, .string x.f0.f2, .string x.f0.f3, .string x.f0.f4]) (by simp [results, Try.results56, go_sem]) rfl ?_
 exact ⟨rfl, ((Grw.refl w).alloc _).alloc _⟩
theorem cell_all {W : World} {a : Addr} {v : Value} (h : W.cell? a = some v) (n : Nat) (os : Array Obj) : (grow (W.drewN n) os).cell? a = some v := keep_grow h
set_option maxHeartbeats 4000000 in
set_option maxRecDepth 100000 in
theorem comp_calls (x y : S34) (pc pk : Nat) (w : World) (hc : w.cell? ⟨pc, 0, none⟩ = some (.func (.func 29) #[] #[])) (hk : w.cell? ⟨pk, 0, none⟩ = some (.func (.func 56) #[] #[])) :
  Calls Try.prog 83 (#[.agg (e34 x).toArray, .agg (e34 y).toArray] ++ #[.pointer (some ⟨pc, 0, none⟩), .pointer (some ⟨pk, 0, none⟩)]) w fun e w' => e = .returned (.int .i64 (cmpK x.f0 y.f0)) ∧ Grw w w' := by
 unfold e34
 have HC := Aside0.mk hc
 have HK := Aside0.mk hk
 clear hc hk
 go_enter Try.func83, Try.ntmps83
 go_upto_region 1 with (fail)
 refine with_world (P := fun x => Code.wp _ _ _ _ x) _ ?_
 intro w1 hw1
 obtain ⟨g, hg⟩ : ∃ g, w.heap.size = g := ⟨_, rfl⟩
 have BX := (show w1.heap[g]? = some (.cells #[.string x.f0.f0, .string x.f0.f1, .string x.f0.f2, .string x.f0.f3, .string x.f0.f4, .int .i64 x.f1, .int .i64 x.f2] 34 (0, 0)) from by rw [hw1, ← hg]; exact blk_alloc (blk_new w _) _)
 have BY := (show w1.heap[g + 1]? = some (.cells #[.string y.f0.f0, .string y.f0.f1, .string y.f0.f2, .string y.f0.f3, .string y.f0.f4, .int .i64 y.f1, .int .i64 y.f2] 34 (0, 0)) from by
  rw [hw1, ← hg]
  exact blk_newAt _ _ _ (by simp))
 have HG := Aside0.mk (show Grw w w1 from by rw [hw1]; exact ((Grw.refl w).alloc _).alloc _)
 have HC1 := (show w1.cell? ⟨pc, 0, none⟩ = some (.func (.func 29) #[] #[]) from by rw [hw1]; exact keep_alloc (keep_alloc HC.out))
 have HK1 := (show w1.cell? ⟨pk, 0, none⟩ = some (.func (.func 56) #[] #[]) from by rw [hw1]; exact keep_alloc (keep_alloc HK.out))
 rw [hg]
 clear hw1 hg
 have hc := cell_all HC1
 have hk := cell_all HK1
 have x0 := cell_all (v := .string x.f0.f0) ((blk_cell BX 0).trans rfl)
 have x1 := cell_all (v := .string x.f0.f1) ((blk_cell BX 1).trans rfl)
 have x2 := cell_all (v := .string x.f0.f2) ((blk_cell BX 2).trans rfl)
 have x3 := cell_all (v := .string x.f0.f3) ((blk_cell BX 3).trans rfl)
 have x4 := cell_all (v := .string x.f0.f4) ((blk_cell BX 4).trans rfl)
 have x5 := cell_all (v := .int .i64 x.f1) ((blk_cell BX 5).trans rfl)
 have x6 := cell_all (v := .int .i64 x.f2) ((blk_cell BX 6).trans rfl)
 have y0 := cell_all (v := .string y.f0.f0) ((blk_cell BY 0).trans rfl)
 have y1 := cell_all (v := .string y.f0.f1) ((blk_cell BY 1).trans rfl)
 have y2 := cell_all (v := .string y.f0.f2) ((blk_cell BY 2).trans rfl)
 have y3 := cell_all (v := .string y.f0.f3) ((blk_cell BY 3).trans rfl)
 have y4 := cell_all (v := .string y.f0.f4) ((blk_cell BY 4).trans rfl)
 have y5 := cell_all (v := .int .i64 y.f1) ((blk_cell BY 5).trans rfl)
 have y6 := cell_all (v := .int .i64 y.f2) ((blk_cell BY 6).trans rfl)
 clear HC1 HK1 BX BY HC HK
 have mixed : Try.prog.follows .mixedOrders = true := by kernel_rfl
 go_wp2_with fail
 go_quiet_grown (first | (go_at_call 56; (with_reducible refine Calls.grown_of (key_calls x _))) | (go_at_call 56; (with_reducible refine Calls.grown_of (key_calls y _))) | (go_at_call 29; refine Calls.grown_of (cmp_calls x.f0 y.f0 _)))
 go_wp2
 go_ret
 exact ⟨rfl, HG.out.trans ⟨_, _, rfl⟩⟩
/-! ### The order of the keys -/
structure Cmp3 {α : Type} (c : α → α → Int) : Prop where
 sw : ∀ x y, c y x = - c x y
 tr : ∀ x y z, c x y ≤ 0 → c y z ≤ 0 → c x z ≤ 0
section
variable {α β : Type} {c : α → α → Int}
theorem Cmp3.refl (h : Cmp3 c) (x : α) : c x x = 0 := by have := h.sw x x; omega
theorem Cmp3.lt_le (h : Cmp3 c) {x y z : α} (h1 : c x y < 0) (h2 : c y z ≤ 0) : c x z < 0 := by
 have h3 := h.tr x y z (by omega) h2
 rcases Int.lt_or_eq_of_le h3 with h4 | h4
 ·exact h4
 ·exfalso
  have h5 := h.sw x z
  have h6 := h.tr y z x h2 (by omega)
  have := h.sw x y
  omega
theorem Cmp3.le_lt (h : Cmp3 c) {x y z : α} (h1 : c x y ≤ 0) (h2 : c y z < 0) : c x z < 0 := by
 have h3 := h.tr x y z h1 (by omega)
 rcases Int.lt_or_eq_of_le h3 with h4 | h4
 ·exact h4
 ·exfalso
  have h5 := h.sw x z
  have h6 := h.tr z x y (by omega) h1
  have := h.sw y z
  omega
theorem Cmp3.on (h : Cmp3 c) (f : β → α) : Cmp3 (fun x y => c (f x) (f y)) := ⟨fun x y => h.sw _ _, fun x y z => h.tr _ _ _⟩
theorem Cmp3.lex {d : α → α → Int} (h : Cmp3 c) (k : Cmp3 d) : Cmp3 (fun x y => if c x y = 0 then d x y else c x y) := by
 refine ⟨fun x y => ?_, fun x y z h1 h2 => ?_⟩
 ·have := h.sw x y
  by_cases e : c x y = 0
  ·simp only [if_pos e, if_pos (show c y x = 0 by omega)]
   exact k.sw x y
  ·simp only [if_neg e, if_neg (show ¬ c y x = 0 by omega)]
   exact this
 ·by_cases e1 : c x y = 0
  ·rw [if_pos e1] at h1
   by_cases e2 : c y z = 0
   ·rw [if_pos e2] at h2
    have a1 := h.tr x y z (by omega) (by omega)
    have a2 := h.tr z y x (by have := h.sw y z; omega) (by have := h.sw x y; omega)
    have a3 := h.sw x z
    rw [if_pos (by omega)]
    exact k.tr x y z h1 h2
   ·rw [if_neg e2] at h2
    have := h.le_lt (x := x) (y := y) (z := z) (by omega) (by omega)
    rw [if_neg (by omega)]
    omega
  ·rw [if_neg e1] at h1
   have h3 : c y z ≤ 0 := by
    by_cases e2 : c y z = 0
    ·omega
    ·rw [if_neg e2] at h2; exact h2
   have := h.lt_le (x := x) (y := y) (z := z) (by omega) h3
   rw [if_neg (by omega)]
   omega
theorem Cmp3.swo (h : Cmp3 c) : SWO (Go.Proofs.ltOf c) := by
 refine ⟨fun x => ?_, fun x y z h1 h2 => ?_, fun x y z h1 h2 => ?_⟩
 ·exact decide_eq_false (by rw [h.refl]; omega)
 ·have h1 : c x y < 0 := of_decide_eq_true h1
  have h2 : c y z < 0 := of_decide_eq_true h2
  exact decide_eq_true (h.lt_le h1 (by omega))
 ·have h1 : ¬ c x y < 0 := of_decide_eq_false h1
  have h2 : ¬ c y z < 0 := of_decide_eq_false h2
  refine decide_eq_false ?_
  have a1 := h.sw x y
  have a2 := h.sw y z
  have a3 := h.sw x z
  have := h.tr z y x (by omega) (by omega)
  omega
end
theorem bytes_sw : ∀ (a b : List UInt8), Lib.compareBytes b a = - Lib.compareBytes a b
 | [], [] => rfl
 | [], _ :: _ => rfl
 | _ :: _, [] => rfl
 | x :: a, y :: b => by
  have ih := bytes_sw a b
  unfold Lib.compareBytes
  by_cases h1 : x < y
  ·have h2 : ¬ y < x := UInt8.lt_asymm h1
   simp only [h1, h2, if_true, if_false]
   decide
  ·by_cases h2 : y < x
   ·simp only [h1, h2, if_true, if_false]
   ·simp only [h1, h2, if_false]
    exact ih
theorem bytes_zero : ∀ (a b : List UInt8), Lib.compareBytes a b = 0 → a = b
 | [], [], _ => rfl
 | [], _ :: _, h => by cases h
 | _ :: _, [], h => by cases h
 | x :: a, y :: b, h => by
  unfold Lib.compareBytes at h
  by_cases h1 : x < y
  ·rw [if_pos h1] at h; cases h
  rw [if_neg h1] at h
  by_cases h2 : y < x
  ·rw [if_pos h2] at h; cases h
  rw [if_neg h2] at h
  rw [bytes_zero a b h, UInt8.le_antisymm (UInt8.not_lt.1 h2) (UInt8.not_lt.1 h1)]
theorem bytes_tr : ∀ (a b c : List UInt8), Lib.compareBytes a b ≤ 0 → Lib.compareBytes b c ≤ 0 → Lib.compareBytes a c ≤ 0
 | [], _, [], _, _ => by decide
 | [], _, _ :: _, _, _ => (by decide : (-1 : Int) ≤ 0)
 | _ :: _, [], _, h, _ => absurd h (by show ¬ (1 : Int) ≤ 0; decide)
 | _ :: _, _ :: _, [], _, h => absurd h (by show ¬ (1 : Int) ≤ 0; decide)
 | x :: a, y :: b, z :: c, h, k => by
  have ih := bytes_tr a b c
  unfold Lib.compareBytes at h k ⊢
  by_cases h1 : x < y
  ·by_cases k1 : y < z
   ·rw [if_pos (UInt8.lt_trans h1 k1)]; decide
   ·rw [if_neg k1] at k
    by_cases k2 : z < y
    ·rw [if_pos k2] at k; exact absurd k (by decide)
    ·have : y = z := UInt8.le_antisymm (UInt8.not_lt.1 k2) (UInt8.not_lt.1 k1)
     subst this
     rw [if_pos h1]; decide
  ·rw [if_neg h1] at h
   by_cases h2 : y < x
   ·rw [if_pos h2] at h; exact absurd h (by decide)
   ·rw [if_neg h2] at h
    have : x = y := UInt8.le_antisymm (UInt8.not_lt.1 h2) (UInt8.not_lt.1 h1)
    subst this
    by_cases k1 : x < z
    ·rw [if_pos k1]; decide
    ·rw [if_neg k1] at k ⊢
     by_cases k2 : z < x
     ·rw [if_pos k2] at k; exact absurd k (by decide)
     ·rw [if_neg k2] at k ⊢
      exact ih h k
theorem cmp3_B : Cmp3 cmpB := ⟨fun x y => bytes_sw _ _, fun x y z => bytes_tr _ _ _⟩
theorem cmpB_zero {a b : ByteArray} (h : cmpB a b = 0) : a = b := ByteArray.ext (Array.ext' (bytes_zero _ _ h))
theorem cmpK_eq (x y : S32) : cmpK x y = (if cmpB x.f0 y.f0 = 0 then if cmpB x.f1 y.f1 = 0 then if cmpB x.f2 y.f2 = 0 then if cmpB x.f3 y.f3 = 0 then cmpB x.f4 y.f4 else cmpB x.f3 y.f3 else cmpB x.f2 y.f2 else cmpB x.f1 y.f1 else cmpB x.f0 y.f0) := by
 unfold cmpK flds
 simp only [cmpL]
 by_cases h : cmpB x.f4 y.f4 = 0
 ·simp [h]
 ·simp [h]
theorem cmp3_K : Cmp3 cmpK := by
 have h := (cmp3_B.on S32.f0).lex ((cmp3_B.on S32.f1).lex ((cmp3_B.on S32.f2).lex ((cmp3_B.on S32.f3).lex (cmp3_B.on S32.f4))))
 have e : cmpK = _ := funext fun x => funext fun y => cmpK_eq x y
 rw [e]
 exact h
theorem cmpK_zero {x y : S32} (h : cmpK x y = 0) : x = y := by
 rw [cmpK_eq] at h
 by_cases h0 : cmpB x.f0 y.f0 = 0
 ·rw [if_pos h0] at h
  by_cases h1 : cmpB x.f1 y.f1 = 0
  ·rw [if_pos h1] at h
   by_cases h2 : cmpB x.f2 y.f2 = 0
   ·rw [if_pos h2] at h
    by_cases h3 : cmpB x.f3 y.f3 = 0
    ·rw [if_pos h3] at h
     obtain ⟨a, b, c, d, e⟩ := x
     obtain ⟨a', b', c', d', e'⟩ := y
     rw [S32.mk.injEq]
     exact ⟨cmpB_zero h0, cmpB_zero h1, cmpB_zero h2, cmpB_zero h3, cmpB_zero h⟩
    ·rw [if_neg h3] at h; exact absurd h h3
   ·rw [if_neg h2] at h; exact absurd h h2
  ·rw [if_neg h1] at h; exact absurd h h1
 ·rw [if_neg h0] at h; exact absurd h h0
/-- How the cells are ordered. -/
def cmpC (x y : S34) : Int := cmpK x.f0 y.f0
theorem cmp3_C : Cmp3 cmpC := cmp3_K.on S34.f0
theorem swo_C : SWO (Go.Proofs.ltOf cmpC) := cmp3_C.swo
section
variable {w0 W : World} {blk off : Nat} {dk : Array S34}
/-- A cell of another block, in a world of the sort's. -/
theorem swk_cell (h : SWK e34 7 w0 blk off dk W) {a : Addr} {v : Value} (ha : a.block ≠ blk) (hv : w0.cell? a = some v) : W.cell? a = some v := by
 obtain ⟨n, os, rfl⟩ := h
 have hlt := World.block_lt_of_cell? w0 a hv
 unfold sortWorldK
 rw [cell?_grow _ _ _ (by rw [size_putRowK]; exact hlt), cell?_putRowK_other _ _ _ _ _ _ _ ha]
 exact hv
/-- The comparison's contract, as the sort asks it. -/
theorem comp_lays {pc pk size : Nat} (hc : w0.cell? ⟨pc, 0, none⟩ = some (.func (.func 29) #[] #[])) (hk : w0.cell? ⟨pk, 0, none⟩ = some (.func (.func 56) #[] #[])) (nc : pc ≠ blk) (nk : pk ≠ blk) :
  CmpLays Try.prog 83 #[.pointer (some ⟨pc, 0, none⟩), .pointer (some ⟨pk, 0, none⟩)] e34 7 cmpC blk off size w0 := fun m os dk hdk x y =>
 comp_calls x y pc pk _ (swk_cell ⟨m, os, rfl⟩ nc hc) (swk_cell ⟨m, os, rfl⟩ nk hk)
end
end Go.Proofs.Ytmflggbpiadkjaa.P

/- The contracts of slices.insertionSortCmpFunc at cells. -/
namespace Go.Proofs.Ytmflggbpiadkjaa.P
open Go.RowKit Go.Sort Go.Proofs.YtmflggbpiadkjaaW.PrintWords Go.Proofs.YtmflggbpiadkjaaW.PrintLast Go.Proofs.YtmflggbpiadkjaaW.PrintMore
set_option linter.unusedVariables false
set_option linter.unusedSimpArgs false
/-- What the sort is told of the comparison's boxes. -/
structure CmpB (w0 : World) (blk pc pk : Nat) : Prop where
 hc : w0.cell? ⟨pc, 0, none⟩ = some (.func (.func 29) #[] #[])
 hk : w0.cell? ⟨pk, 0, none⟩ = some (.func (.func 56) #[] #[])
 nc : pc ≠ blk
 nk : pk ≠ blk
theorem comp_grown {w0 W : World} {blk off pc pk : Nat} {dk : Array S34} (h : SWK e34 7 w0 blk off dk W) (C : CmpB w0 blk pc pk) (x y : S34) (n : Nat) (os : Array Obj) :
  Calls Try.prog 83 #[.agg #[.string x.f0.f0, .string x.f0.f1, .string x.f0.f2, .string x.f0.f3, .string x.f0.f4, .int .i64 x.f1, .int .i64 x.f2], .agg #[.string y.f0.f0, .string y.f0.f1, .string y.f0.f2, .string y.f0.f3, .string y.f0.f4, .int .i64 y.f1, .int .i64 y.f2], .pointer (some ⟨pc, 0, none⟩), .pointer (some ⟨pk, 0, none⟩)] (grow (W.drewN n) os) fun e w' => e = .returned (.int .i64 (cmpC x y)) ∧ ∃ q os', w' = grow ((grow (W.drewN n) os).drewN q) os' :=
 comp_calls x y pc pk _ (keep_grow (swk_cell h C.nc C.hc)) (keep_grow (swk_cell h C.nk C.hk))
abbrev ltC : S34 → S34 → Bool := Go.Proofs.ltOf cmpC
set_option maxHeartbeats 8000000 in
set_option maxRecDepth 1000000 in
theorem insertion_calls (blk off cap a b pc pk : Nat) (d0 d : Array S34) (w0 w : World) (R : RowK e34 7 w0 blk off d0) (C : CmpB w0 blk pc pk) (hs : d0.size = d.size) (S : SWK e34 7 w0 blk off d w) (hab : a ≤ b) (hb : b ≤ d.size) (hsz : d.size < 2305843009213693952) :
  Calls Try.prog 101 #[.slice (some ⟨blk, off, none⟩) d.size cap, .int .i64 a, .int .i64 b, .func (.func 83) #[] #[.pointer (some ⟨pc, 0, none⟩), .pointer (some ⟨pk, 0, none⟩)]] w fun e w' => e = .returned (.tuple #[]) ∧ SWK e34 7 w0 blk off (Sort.insertionSort ltC d a b) w' := by
 have S0 := Aside0.mk S
 have HR := Aside0.mk R
 have HCB := Aside0.mk C
 clear S R C
 go_enter Try.func101, Try.ntmps101
 go_wp2
 go_loopw [8, 9, 12, 13, 14, 15, 16, 17, 18, 19, 20, 21, 22, 23, 24, 25, 26, 27, 28, 29, 30, 31, 32, 33, 34, 35, 36, 37, 38, 39, 40, 41, 42, 43, 44, 45, 46, 47, 48, 49, 50, 51, 52] (fun v8 _ _ _ _ _ _ _ _ _ _ _ _ _ _ _ _ _ _ _ _ _ _ _ _ _ _ _ _ _ _ _ _ _ _ _ _ _ _ _ _ _ _ wr => ∃ (i : Nat) (dk : Array S34), a + 1 ≤ i ∧ i ≤ b + 1 ∧ v8 = .int .i64 i ∧ dk.size = d.size ∧ Aside0 (SWK e34 7 w0 blk off dk wr) ∧ Aside0 (insOuter ltC a b i dk = insOuter ltC a b (a + 1) d)) (fun v8 _ _ _ _ _ _ _ _ _ _ _ _ _ _ _ _ _ _ _ _ _ _ _ _ _ _ _ _ _ _ _ _ _ _ _ _ _ _ _ _ _ _ _ => b + 1 - (intOf v8).toNat)
 case atStart => exact ⟨a + 1, d, Nat.le_refl _, by omega, by go_num, rfl, S0, ⟨rfl⟩⟩
 case round =>
  clear S0
  obtain ⟨i, dk, hai, hib, rfl, hdz, S1, HO⟩ := hrel
  by_cases hlt : i < b
  ·have d1 : decide ((i : Int) < (b : Int)) = true := decide_eq_true (by omega)
   have d2 : decide (i < b) = true := decide_eq_true hlt
   go_wp2
   go_loopw [9, 18, 19, 20, 21, 22, 23, 24, 25, 26, 27, 28, 29, 30, 31, 32, 33, 34, 35, 36, 37, 38, 39, 40, 41, 42, 43, 44, 45, 46, 47, 48, 49, 50, 51, 52] (fun v9 _ _ _ _ _ _ _ _ _ _ _ _ _ _ _ _ _ _ _ _ _ _ _ _ _ _ _ _ _ _ _ _ _ _ _ wr => ∃ (j : Nat) (dj : Array S34), a ≤ j ∧ j ≤ i ∧ v9 = .int .i64 j ∧ dj.size = d.size ∧ Aside0 (SWK e34 7 w0 blk off dj wr) ∧ Aside0 (insInner ltC a j dj = insInner ltC a i dk)) (fun v9 _ _ _ _ _ _ _ _ _ _ _ _ _ _ _ _ _ _ _ _ _ _ _ _ _ _ _ _ _ _ _ _ _ _ _ _ => (intOf v9).toNat)
   case atStart => exact ⟨i, dk, by omega, Nat.le_refl _, rfl, hdz, S1, ⟨rfl⟩⟩
   case round =>
    clear S1
    obtain ⟨j, dj, haj, hji, rfl, hjz, S1, HI⟩ := hrel
    have OUT := Aside0.mk (show (j ≤ a ∨ ltC dj[j]! dj[j - 1]! = false) → insOuter ltC a b (i + 1) dj = insOuter ltC a b (a + 1) d from fun hs => by
     rw [← HO.out, insOuter_go _ _ _ _ _ hlt, ← HI.out, insInner_stop _ _ _ _ hs])
    by_cases hja : a < j
    ·have d3 : decide ((a : Int) < (j : Int)) = true := decide_eq_true (by omega)
     have d4 : decide (a < j) = true := decide_eq_true hja
     obtain ⟨p, rfl⟩ : ∃ p, j = p + 1 := ⟨j - 1, by omega⟩
     have e1 : ((p + 1 : Nat) : Int) = (p : Int) + 1 := by omega
     have e2 : IntKind.i64.wrap (p : Int) = (p : Int) := by rw [IntKind.wrap_i64]; omega
     have d5 : decide ((a : Int) < (p : Int) + 1) = true := decide_eq_true (by omega)
     have E1 := Aside0.mk e1
     clear e1
     cases hl : ltC dj[p + 1]! dj[p]! with
     | true =>
      have HL := Aside0.mk hl
      clear hl
      have hn_6576 : ((p : Int) + 1).toNat = p + 1 := by omega
      have hp_6576 : (0 : Int) ≤ (p : Int) + 1 := by omega
      have hq_6576 : (p : Int) + 1 < (d.size : Int) := by omega
      have hw_6576 : IntKind.i64.wrap ((p : Int) + 1) = (p : Int) + 1 := by rw [IntKind.wrap_i64]; omega
      have hn_88947 : ((p : Int)).toNat = p := by omega
      have hp_88947 : (0 : Int) ≤ (p : Int) := by omega
      have hq_88947 : (p : Int) < (d.size : Int) := by omega
      have hw_88947 : IntKind.i64.wrap ((p : Int)) = (p : Int) := by rw [IntKind.wrap_i64]; omega
      obtain ⟨x, hx⟩ : ∃ x, dj[p + 1]! = x := ⟨_, rfl⟩
      obtain ⟨y, hy⟩ : ∃ y, dj[p]! = y := ⟨_, rfl⟩
      have cx := (sw_at S1.out HR.out (by omega) (show p + 1 < dj.size by omega)).1
      have cy := (sw_at S1.out HR.out (by omega) (show p < dj.size by omega)).1
      rw [hx] at cx
      rw [hy] at cy
      have hd : decide (cmpC x y < 0) = true := by rw [← hx, ← hy]; exact HL.out
      have hcall := fun n os => comp_grown S1.out HCB.out x y n os
      obtain ⟨x0, x1, x2, x3, x4, x5, x6⟩ := cx
      obtain ⟨y0, y1, y2, y3, y4, y5, y6⟩ := cy
      have x0 := cell_all x0
      have x1 := cell_all x1
      have x2 := cell_all x2
      have x3 := cell_all x3
      have x4 := cell_all x4
      have x5 := cell_all x5
      have x6 := cell_all x6
      have y0 := cell_all y0
      have y1 := cell_all y1
      have y2 := cell_all y2
      have y3 := cell_all y3
      have y4 := cell_all y4
      have y5 := cell_all y5
      have y6 := cell_all y6
      clear hx hy
      have mixed : Try.prog.follows .mixedOrders = true := by kernel_rfl
      go_wp2_with fail
      go_quiet_grown ((go_at_call 83; refine Calls.grown_of (hcall _ _)))
      have S2 := Aside0.mk (S1.out.grown nq osq)
      clear x0 x1 x2 x3 x4 x5 x6 y0 y1 y2 y3 y4 y5 y6 hcall S1 mixed
      generalize grow (wr.drewN nq) osq = w2 at S2 ⊢
      clear nq osq
      go_wp2_with fail
      have hn_6576 : ((p : Int) + 1).toNat = p + 1 := by omega
      have hp_6576 : (0 : Int) ≤ (p : Int) + 1 := by omega
      have hq_6576 : (p : Int) + 1 < (d.size : Int) := by omega
      have hw_6576 : IntKind.i64.wrap ((p : Int) + 1) = (p : Int) + 1 := by rw [IntKind.wrap_i64]; omega
      have hn_88947 : ((p : Int)).toNat = p := by omega
      have hp_88947 : (0 : Int) ≤ (p : Int) := by omega
      have hq_88947 : (p : Int) < (d.size : Int) := by omega
      have hw_88947 : IntKind.i64.wrap ((p : Int)) = (p : Int) := by rw [IntKind.wrap_i64]; omega
      obtain ⟨x, hx⟩ : ∃ x, dj[p + 1]! = x := ⟨_, rfl⟩
      obtain ⟨y, hy⟩ : ∃ y, dj[p]! = y := ⟨_, rfl⟩
      have hsw := S2.out.swapped HR.out (p + 1) (p) (by omega) (by omega)
      rw [hx, hy, sets34, sets34] at hsw
      simp only [set_drew] at hsw
      have HSW := Aside0.mk hsw
      obtain ⟨cx, fx⟩ := sw_at S2.out HR.out (by omega) (show p + 1 < dj.size by omega)
      obtain ⟨cy, fy⟩ := sw_at S2.out HR.out (by omega) (show p < dj.size by omega)
      rw [hx] at cx
      rw [hy] at cy
      obtain ⟨x0, x1, x2, x3, x4, x5, x6⟩ := cx
      obtain ⟨y0, y1, y2, y3, y4, y5, y6⟩ := cy
      obtain ⟨fx0, fx1, fx2, fx3, fx4, fx5, fx6⟩ := fx
      obtain ⟨fy0, fy1, fy2, fy3, fy4, fy5, fy6⟩ := fy
      clear hx hy hsw
      have mixed : Try.prog.follows .mixedOrders = true := by kernel_rfl
      go_wp2_with fail
      go_big_region_o
      refine with_world (P := fun x => Exit.inBlock _ _ _ _ x) _ ?_
      intro w3 hw3
      have S3 := Aside0.mk (show SWK e34 7 w0 blk off (swp dj (p + 1) (p)) w3 from by rw [hw3]; exact HSW.out)
      clear hw3 HSW S2 x0 x1 x2 x3 x4 x5 x6 y0 y1 y2 y3 y4 y5 y6 fx0 fx1 fx2 fx3 fx4 fx5 fx6 fy0 fy1 fy2 fy3 fy4 fy5 fy6 mixed
      go_wp2
      go_roundw
      case rel =>
       refine ⟨p, _, by omega, by omega, by first | rfl | go_num, by rw [size_swp]; exact hjz, S3, ⟨?_⟩⟩
       have := insInner_go ltC a (p + 1) dj (by omega) HL.out
       rw [← HI.out, this]
       rfl
      case measure => simp [intOf]; try omega
     | false =>
      have HL := Aside0.mk hl
      clear hl
      have hn_6576 : ((p : Int) + 1).toNat = p + 1 := by omega
      have hp_6576 : (0 : Int) ≤ (p : Int) + 1 := by omega
      have hq_6576 : (p : Int) + 1 < (d.size : Int) := by omega
      have hw_6576 : IntKind.i64.wrap ((p : Int) + 1) = (p : Int) + 1 := by rw [IntKind.wrap_i64]; omega
      have hn_88947 : ((p : Int)).toNat = p := by omega
      have hp_88947 : (0 : Int) ≤ (p : Int) := by omega
      have hq_88947 : (p : Int) < (d.size : Int) := by omega
      have hw_88947 : IntKind.i64.wrap ((p : Int)) = (p : Int) := by rw [IntKind.wrap_i64]; omega
      obtain ⟨x, hx⟩ : ∃ x, dj[p + 1]! = x := ⟨_, rfl⟩
      obtain ⟨y, hy⟩ : ∃ y, dj[p]! = y := ⟨_, rfl⟩
      have cx := (sw_at S1.out HR.out (by omega) (show p + 1 < dj.size by omega)).1
      have cy := (sw_at S1.out HR.out (by omega) (show p < dj.size by omega)).1
      rw [hx] at cx
      rw [hy] at cy
      have hd : decide (cmpC x y < 0) = false := by rw [← hx, ← hy]; exact HL.out
      have hcall := fun n os => comp_grown S1.out HCB.out x y n os
      obtain ⟨x0, x1, x2, x3, x4, x5, x6⟩ := cx
      obtain ⟨y0, y1, y2, y3, y4, y5, y6⟩ := cy
      have x0 := cell_all x0
      have x1 := cell_all x1
      have x2 := cell_all x2
      have x3 := cell_all x3
      have x4 := cell_all x4
      have x5 := cell_all x5
      have x6 := cell_all x6
      have y0 := cell_all y0
      have y1 := cell_all y1
      have y2 := cell_all y2
      have y3 := cell_all y3
      have y4 := cell_all y4
      have y5 := cell_all y5
      have y6 := cell_all y6
      clear hx hy
      have mixed : Try.prog.follows .mixedOrders = true := by kernel_rfl
      go_wp2_with fail
      go_quiet_grown ((go_at_call 83; refine Calls.grown_of (hcall _ _)))
      have S2 := Aside0.mk (S1.out.grown nq osq)
      clear x0 x1 x2 x3 x4 x5 x6 y0 y1 y2 y3 y4 y5 y6 hcall S1 mixed
      generalize grow (wr.drewN nq) osq = w2 at S2 ⊢
      clear nq osq
      go_wp2
      go_roundw
      case rel => exact ⟨i + 1, dj, by omega, by omega, by go_num, hjz, S2, ⟨OUT.out (.inr HL.out)⟩⟩
      case measure => simp [intOf]; omega
    ·have d3 : decide ((a : Int) < (j : Int)) = false := decide_eq_false (by omega)
     have d4 : decide (a < j) = false := decide_eq_false hja
     have mixed : Try.prog.follows .mixedOrders = true := by kernel_rfl
     have S2 := Aside0.mk S1.out.drew
     go_wp2_with fail
     go_big_region_o
     clear S1
     generalize wr.drew = w2 at S2 ⊢
     go_wp2
     go_roundw
     case rel => exact ⟨i + 1, dj, by omega, by omega, by go_num, hjz, S2, ⟨OUT.out (.inl (by omega))⟩⟩
     case measure => simp [intOf]; omega
  ·have d1 : decide ((i : Int) < (b : Int)) = false := decide_eq_false (by omega)
   have d2 : decide (i < b) = false := decide_eq_false hlt
   go_wp2
   go_end0
   refine ⟨rfl, ?_⟩
   have e : Sort.insertionSort ltC d a b = dk := by
    unfold Sort.insertionSort
    rw [← HO.out, insOuter_stop _ _ _ _ _ hlt]
   rw [e]
   exact S1.out
end Go.Proofs.Ytmflggbpiadkjaa.P

/- The contracts of slices.rotateCmpFunc at cells. -/
namespace Go.Proofs.Ytmflggbpiadkjaa.P
open Go.RowKit Go.Sort Go.Proofs.YtmflggbpiadkjaaW.PrintWords Go.Proofs.YtmflggbpiadkjaaW.PrintLast Go.Proofs.YtmflggbpiadkjaaW.PrintMore
set_option linter.unusedVariables false
set_option linter.unusedSimpArgs false
set_option maxHeartbeats 4000000 in
set_option maxRecDepth 1000000 in
theorem rotate_calls (blk off cap a m b : Nat) (d0 d : Array S34) (w0 w : World) (cmp : Value) (R : RowK e34 7 w0 blk off d0) (hs : d0.size = d.size) (S : SWK e34 7 w0 blk off d w) (h1 : a < m) (h2 : m < b) (h3 : b ≤ d.size) (hsz : d.size < 2305843009213693952) :
  Calls Try.prog 103 #[.slice (some ⟨blk, off, none⟩) d.size cap, .int .i64 a, .int .i64 m, .int .i64 b, cmp] w fun e w' => e = .returned (.tuple #[]) ∧ ∃ e', Rot a m b d e' ∧ SWK e34 7 w0 blk off e' w' := by
 have S0 := Aside0.mk S
 have HR := Aside0.mk R
 clear S R
 have HST := Aside0.mk (RotSt.start d h1 h2)
 go_enter Try.func103, Try.ntmps103
 go_wp2
 go_loopw [10, 11, 18, 19, 20, 21, 22, 23, 24, 25, 26, 27, 28, 29, 30, 31, 32, 33, 34, 35, 36, 37, 38, 39, 40, 41, 42, 43, 44, 45, 46, 47, 48, 49] (fun v10 v11 _ _ _ _ _ _ _ _ _ _ _ _ _ _ _ _ _ _ _ _ _ _ _ _ _ _ _ _ _ _ _ _ wr => ∃ (i j : Nat) (e : Array S34), v10 = .int .i64 i ∧ v11 = .int .i64 j ∧ Aside0 (RotSt a m b i j d e) ∧ Aside0 (SWK e34 7 w0 blk off e wr)) (fun v10 v11 _ _ _ _ _ _ _ _ _ _ _ _ _ _ _ _ _ _ _ _ _ _ _ _ _ _ _ _ _ _ _ _ _ => (intOf v10).toNat + (intOf v11).toNat)
 case atStart => exact ⟨m - a, b - m, d, by go_num, by go_num, HST, S0⟩
 case round =>
  clear S0 HST
  obtain ⟨i, j, e, rfl, rfl, HST, S1⟩ := hrel
  obtain ⟨g1, g2⟩ := HST.out.hi
  obtain ⟨g3, g4⟩ := HST.out.hj
  have hez := HST.out.perm.1
  by_cases hij : i = j
  ·subst hij
   have dn : ((i : Int) != (i : Int)) = false := bne_eq_false_iff_eq.mpr rfl
   have HEZ := Aside0.mk hez
   have e1 : (m : Int) - (i : Int) = ((m - i : Nat) : Int) := by omega
   have e2 : IntKind.i64.wrap ((m : Int) - (i : Int)) = ((m - i : Nat) : Int) := by rw [IntKind.wrap_i64]; omega
   have HC := Aside0.mk (swapRange_calls blk off cap (m - i) m i d0 e w0 wr cmp HR.out (by omega) S1.out (by omega) (by omega) (by omega))
   rw [HEZ.out] at HC
   clear hez
   go_wp2_with (first | (go_at_call 104; refine HC.out.mono ?_; rintro e_ w2 ⟨rfl, hs_⟩; have S2 := Aside0.mk hs_; clear hs_))
   go_end0
   exact ⟨rfl, _, HST.out.last h1 h2 h3, S2.out⟩
  ·have dn : ((i : Int) != (j : Int)) = true := bne_iff_ne.mpr (by omega)
   have HEZ := Aside0.mk hez
   by_cases hlt : j < i
   ·have d1 : decide ((j : Int) < (i : Int)) = true := decide_eq_true (by omega)
    have d2 : decide (j < i) = true := decide_eq_true hlt
    have e1 : (m : Int) - (i : Int) = ((m - i : Nat) : Int) := by omega
    have e2 : IntKind.i64.wrap ((m : Int) - (i : Int)) = ((m - i : Nat) : Int) := by rw [IntKind.wrap_i64]; omega
    have HC := Aside0.mk (swapRange_calls blk off cap (m - i) m j d0 e w0 wr cmp HR.out (by omega) S1.out (by omega) (by omega) (by omega))
    have HN := Aside0.mk (HST.out.left h1 h2 h3 hlt)
    rw [HEZ.out] at HC
    clear hez hij
    go_wp2_with (first | (go_at_call 104; refine HC.out.mono ?_; rintro e_ w2 ⟨rfl, hs_⟩; have S2 := Aside0.mk hs_; clear hs_))
    go_roundw
    case rel => exact ⟨i - j, j, _, by go_num, rfl, HN, S2⟩
    case measure => simp [intOf]; omega
   ·have d1 : decide ((j : Int) < (i : Int)) = false := decide_eq_false (by omega)
    have d2 : decide (j < i) = false := decide_eq_false hlt
    have e1 : (m : Int) - (i : Int) = ((m - i : Nat) : Int) := by omega
    have e2 : IntKind.i64.wrap ((m : Int) - (i : Int)) = ((m - i : Nat) : Int) := by rw [IntKind.wrap_i64]; omega
    have e3 : IntKind.i64.wrap ((m : Int) + (j : Int)) = (m : Int) + (j : Int) := by rw [IntKind.wrap_i64]; omega
    have e4 : IntKind.i64.wrap ((m : Int) + (j : Int) - (i : Int)) = ((m + j - i : Nat) : Int) := by rw [IntKind.wrap_i64]; omega
    have e5 : (m : Int) + (j : Int) - (i : Int) = ((m + j - i : Nat) : Int) := by omega
    have HC := Aside0.mk (swapRange_calls blk off cap (m - i) (m + j - i) i d0 e w0 wr cmp HR.out (by omega) S1.out (by omega) (by omega) (by omega))
    have HN := Aside0.mk (HST.out.right h1 h2 h3 (by omega))
    rw [HEZ.out] at HC
    clear hez
    go_wp2_with (first | (go_at_call 104; refine HC.out.mono ?_; rintro e_ w2 ⟨rfl, hs_⟩; have S2 := Aside0.mk hs_; clear hs_))
    go_roundw
    case rel => exact ⟨i, j - i, _, rfl, by go_num, HN, S2⟩
    case measure => simp [intOf]; omega
end Go.Proofs.Ytmflggbpiadkjaa.P

/- The contracts of slices.symMergeCmpFunc at cells. -/
namespace Go.Proofs.Ytmflggbpiadkjaa.P
open Go.RowKit Go.Sort Go.Proofs.YtmflggbpiadkjaaW.PrintWords Go.Proofs.YtmflggbpiadkjaaW.PrintLast Go.Proofs.YtmflggbpiadkjaaW.PrintMore
set_option linter.unusedVariables false
set_option linter.unusedSimpArgs false
theorem lt_le_true {x y z : S34} (h1 : ltC x z = true) (h2 : ltC x y = false) : ltC y z = true := lt_of_le_lt swo_C h2 h1
theorem le_lt_true {x y z : S34} (h1 : ltC x z = true) (h2 : ltC y z = false) : ltC x y = true := lt_of_lt_le swo_C h1 h2
set_option maxHeartbeats 64000000 in
set_option maxRecDepth 1000000 in
theorem symMerge_calls (blk off cap pc pk : Nat) (d0 : Array S34) (w0 : World) (R : RowK e34 7 w0 blk off d0) (C : CmpB w0 blk pc pk) (hsz : d0.size < 2305843009213693952) :
  ∀ (N a m b : Nat) (d : Array S34) (w : World), b - a < N → d0.size = d.size → SWK e34 7 w0 blk off d w → a < m → m < b → b ≤ d.size → SortedIn ltC a m d → SortedIn ltC m b d →
  Calls Try.prog 102 #[.slice (some ⟨blk, off, none⟩) d0.size cap, .int .i64 a, .int .i64 m, .int .i64 b, .func (.func 83) #[] #[.pointer (some ⟨pc, 0, none⟩), .pointer (some ⟨pk, 0, none⟩)]] w fun e w' => e = .returned (.tuple #[]) ∧ ∃ e', Mrg ltC a b d e' ∧ SWK e34 7 w0 blk off e' w' := by
 have HR := Aside0.mk R
 have HCB := Aside0.mk C
 clear R C
 intro N
 induction N with
 | zero => intro a m b d w h; exact absurd h (Nat.not_lt_zero _)
 | succ N ih =>
  intro a m b d w hN hs S h1 h2 h3 lo hi
  have IH := Aside0.mk ih
  have S0 := Aside0.mk S
  have LO := Aside0.mk lo
  have HI := Aside0.mk hi
  clear ih S lo hi
  rw [hs] at hsz IH ⊢
  have HS := Aside0.mk hs
  by_cases n1 : m = a + 1
  ·have f1 : IntKind.i64.wrap ((m : Int) - (a : Int)) = 1 := by rw [IntKind.wrap_i64]; omega
   have f5 : (m : Int) - (a : Int) = 1 := by omega
   have HI := Aside0.mk (show SortedIn ltC (a + 1) b d from by rw [← n1]; exact HI.out)
   have hm1 : a + 1 ≤ m := by omega
   have hm2 : m ≤ a + 1 := by omega
   clear hs h1 IH n1
   go_enter Try.func102, Try.ntmps102
   go_wp2
   go_loopw [10, 11, 12, 31, 32, 33, 34, 35, 36, 37, 38, 39, 40, 41, 42, 43, 44, 45, 46, 47, 48, 49, 50, 51, 52, 53] (fun v10 v11 _ _ _ _ _ _ _ _ _ _ _ _ _ _ _ _ _ _ _ _ _ _ _ _ wr => ∃ i j : Nat, a + 1 ≤ i ∧ i ≤ j ∧ j ≤ b ∧ v10 = .int .i64 i ∧ v11 = .int .i64 j ∧ Aside0 (∀ t, a + 1 ≤ t → t < i → ltC d[t]! d[a]! = true) ∧ Aside0 (∀ t, j ≤ t → t < b → ltC d[t]! d[a]! = false) ∧ Aside0 (SWK e34 7 w0 blk off d wr)) (fun v10 v11 _ _ _ _ _ _ _ _ _ _ _ _ _ _ _ _ _ _ _ _ _ _ _ _ _ => (intOf v11).toNat - (intOf v10).toNat)
   case atStart => exact ⟨m, b, hm1, by omega, Nat.le_refl _, rfl, rfl, ⟨fun t k1 k2 => by omega⟩, ⟨fun t k1 k2 => by omega⟩, S0⟩
   case round =>
    clear S0
    obtain ⟨i, j, hi1, hij, hjb, rfl, rfl, HB, HA, S1⟩ := hrel
    by_cases hlt : i < j
    ·have d1 : decide ((i : Int) < (j : Int)) = true := decide_eq_true (by omega)
     have d2 : decide (i < j) = true := decide_eq_true hlt
     obtain ⟨h, hh⟩ : ∃ h, (i + j) / 2 = h := ⟨_, rfl⟩
     have eh : ((i : Int) + (j : Int)) / 2 = (h : Int) := by omega
     have gh1 : i ≤ h := by omega
     have gh2 : h < j := by omega
     have ga : a < d.size := by omega
     have gh : h < d.size := by omega
     clear hh
     cases hl : ltC d[h]! d[a]! with
     | true =>
      have HL := Aside0.mk hl
      clear hl
      go_upto_region 5 with (fail)
      clear eh
      have hn_3655 : ((h : Int)).toNat = h := by omega
      have hp_3655 : (0 : Int) ≤ (h : Int) := by omega
      have hq_3655 : (h : Int) < (d.size : Int) := by omega
      have hw_3655 : IntKind.i64.wrap ((h : Int)) = (h : Int) := by rw [IntKind.wrap_i64]; omega
      have hn_51610 : ((a : Int)).toNat = a := by omega
      have hp_51610 : (0 : Int) ≤ (a : Int) := by omega
      have hq_51610 : (a : Int) < (d.size : Int) := by omega
      have hw_51610 : IntKind.i64.wrap ((a : Int)) = (a : Int) := by rw [IntKind.wrap_i64]; omega
      obtain ⟨x, hx⟩ : ∃ x, d[h]! = x := ⟨_, rfl⟩
      obtain ⟨y, hy⟩ : ∃ y, d[a]! = y := ⟨_, rfl⟩
      have cx := (sw_at S1.out HR.out (by have := HS.out; omega) (show h < d.size by omega)).1
      have cy := (sw_at S1.out HR.out (by have := HS.out; omega) (show a < d.size by omega)).1
      rw [hx] at cx
      rw [hy] at cy
      have hd : decide (cmpC x y < 0) = true := by rw [← hx, ← hy]; exact HL.out
      have hcall := fun n os => comp_grown S1.out HCB.out x y n os
      obtain ⟨x0, x1, x2, x3, x4, x5, x6⟩ := cx
      obtain ⟨y0, y1, y2, y3, y4, y5, y6⟩ := cy
      have x0 := cell_all x0
      have x1 := cell_all x1
      have x2 := cell_all x2
      have x3 := cell_all x3
      have x4 := cell_all x4
      have x5 := cell_all x5
      have x6 := cell_all x6
      have y0 := cell_all y0
      have y1 := cell_all y1
      have y2 := cell_all y2
      have y3 := cell_all y3
      have y4 := cell_all y4
      have y5 := cell_all y5
      have y6 := cell_all y6
      clear hx hy
      have mixed : Try.prog.follows .mixedOrders = true := by kernel_rfl
      go_wp2_with fail
      go_quiet_grown ((go_at_call 83; refine Calls.grown_of (hcall _ _)))
      have S2 := Aside0.mk (S1.out.grown nq osq)
      clear x0 x1 x2 x3 x4 x5 x6 y0 y1 y2 y3 y4 y5 y6 hcall S1 mixed
      generalize grow (wr.drewN nq) osq = w2 at S2 ⊢
      clear nq osq
      go_wp2
      go_roundw
      case rel => exact ⟨h + 1, j, by omega, by omega, hjb, by go_num, rfl, ⟨fun t k1 k2 => lt_le_true HL.out (sorted_le swo_C HI.out k1 (by omega) (by omega))⟩, HA, S2⟩
      case measure => simp [intOf]; try omega
     | false =>
      have HL := Aside0.mk hl
      clear hl
      go_upto_region 5 with (fail)
      clear eh
      have hn_3655 : ((h : Int)).toNat = h := by omega
      have hp_3655 : (0 : Int) ≤ (h : Int) := by omega
      have hq_3655 : (h : Int) < (d.size : Int) := by omega
      have hw_3655 : IntKind.i64.wrap ((h : Int)) = (h : Int) := by rw [IntKind.wrap_i64]; omega
      have hn_51610 : ((a : Int)).toNat = a := by omega
      have hp_51610 : (0 : Int) ≤ (a : Int) := by omega
      have hq_51610 : (a : Int) < (d.size : Int) := by omega
      have hw_51610 : IntKind.i64.wrap ((a : Int)) = (a : Int) := by rw [IntKind.wrap_i64]; omega
      obtain ⟨x, hx⟩ : ∃ x, d[h]! = x := ⟨_, rfl⟩
      obtain ⟨y, hy⟩ : ∃ y, d[a]! = y := ⟨_, rfl⟩
      have cx := (sw_at S1.out HR.out (by have := HS.out; omega) (show h < d.size by omega)).1
      have cy := (sw_at S1.out HR.out (by have := HS.out; omega) (show a < d.size by omega)).1
      rw [hx] at cx
      rw [hy] at cy
      have hd : decide (cmpC x y < 0) = false := by rw [← hx, ← hy]; exact HL.out
      have hcall := fun n os => comp_grown S1.out HCB.out x y n os
      obtain ⟨x0, x1, x2, x3, x4, x5, x6⟩ := cx
      obtain ⟨y0, y1, y2, y3, y4, y5, y6⟩ := cy
      have x0 := cell_all x0
      have x1 := cell_all x1
      have x2 := cell_all x2
      have x3 := cell_all x3
      have x4 := cell_all x4
      have x5 := cell_all x5
      have x6 := cell_all x6
      have y0 := cell_all y0
      have y1 := cell_all y1
      have y2 := cell_all y2
      have y3 := cell_all y3
      have y4 := cell_all y4
      have y5 := cell_all y5
      have y6 := cell_all y6
      clear hx hy
      have mixed : Try.prog.follows .mixedOrders = true := by kernel_rfl
      go_wp2_with fail
      go_quiet_grown ((go_at_call 83; refine Calls.grown_of (hcall _ _)))
      have S2 := Aside0.mk (S1.out.grown nq osq)
      clear x0 x1 x2 x3 x4 x5 x6 y0 y1 y2 y3 y4 y5 y6 hcall S1 mixed
      generalize grow (wr.drewN nq) osq = w2 at S2 ⊢
      clear nq osq
      go_wp2
      go_roundw
      case rel => exact ⟨i, h, hi1, gh1, by omega, rfl, rfl, HB, ⟨fun t k1 k2 => swo_C.ntrans _ _ _ (sorted_le swo_C HI.out (by omega) k1 k2) HL.out⟩, S2⟩
      case measure => simp [intOf]; try omega
    ·obtain rfl : i = j := by omega
     have d1 : decide ((i : Int) < (i : Int)) = false := decide_eq_false (by omega)
     have d2 : decide (i < i) = false := decide_eq_false (by omega)
     have HM := Aside0.mk (mrg_first swo_C (show a + 1 < b by omega) h3 HI.out hi1 hjb HB.out HA.out)
     have S2 := Aside0.mk (show SWK e34 7 w0 blk off (upN d a 0) wr from S1.out)
     clear S1 HA HB
     go_wp2
     go_loopw [13, 55, 56, 57, 58, 59, 60, 61, 62, 63, 64, 65, 66, 67, 68, 69, 70, 71, 72, 73, 74, 75, 76] (fun v13 _ _ _ _ _ _ _ _ _ _ _ _ _ _ _ _ _ _ _ _ _ _ wr => ∃ n : Nat, n ≤ i - 1 - a ∧ v13 = .int .i64 (a + n : Nat) ∧ Aside0 (SWK e34 7 w0 blk off (upN d a n) wr)) (fun v13 _ _ _ _ _ _ _ _ _ _ _ _ _ _ _ _ _ _ _ _ _ _ _ => i - (intOf v13).toNat)
     case atStart => exact ⟨0, Nat.zero_le _, rfl, S2⟩
     case round =>
      clear S2
      obtain ⟨n, hn, rfl, S1⟩ := hrel
      have hz := upN_size d a n
      obtain ⟨k, hk⟩ : ∃ k, a + n = k := ⟨_, rfl⟩
      have ei : IntKind.i64.wrap ((i : Int) - 1) = (i : Int) - 1 := by rw [IntKind.wrap_i64]; omega
      by_cases hlt2 : n < i - 1 - a
      ·have d3 : decide ((k : Int) < (i : Int) - 1) = true := decide_eq_true (by omega)
       have d4 : decide ((k : Int) + 1 < (i : Int)) = true := decide_eq_true (by omega)
       obtain ⟨e, he⟩ : ∃ e, upN d a n = e := ⟨_, rfl⟩
       have EN := Aside0.mk (show upN d a (n + 1) = swp e k (k + 1) from by rw [← he, ← hk]; rfl)
       rw [he] at S1 hz
       rw [hk]
       have HK := Aside0.mk hk
       have HZ := Aside0.mk hz
       have gk : k + 1 < e.size := by omega
       have gk2 : k + 1 < d.size := by omega
       clear he hk hz
       go_upto_region 11 with (fail)
       have hn_72215 : ((k : Int)).toNat = k := by omega
       have hp_72215 : (0 : Int) ≤ (k : Int) := by omega
       have hq_72215 : (k : Int) < (d.size : Int) := by omega
       have hw_72215 : IntKind.i64.wrap ((k : Int)) = (k : Int) := by rw [IntKind.wrap_i64]; omega
       have hn_80118 : ((k : Int) + 1).toNat = k + 1 := by omega
       have hp_80118 : (0 : Int) ≤ (k : Int) + 1 := by omega
       have hq_80118 : (k : Int) + 1 < (d.size : Int) := by omega
       have hw_80118 : IntKind.i64.wrap ((k : Int) + 1) = (k : Int) + 1 := by rw [IntKind.wrap_i64]; omega
       obtain ⟨x, hx⟩ : ∃ x, e[k]! = x := ⟨_, rfl⟩
       obtain ⟨y, hy⟩ : ∃ y, e[k + 1]! = y := ⟨_, rfl⟩
       have hsw := S1.out.swapped HR.out (k) (k + 1) (by omega) (by omega)
       rw [hx, hy, sets34, sets34] at hsw
       simp only [set_drew] at hsw
       have HSW := Aside0.mk hsw
       obtain ⟨cx, fx⟩ := sw_at S1.out HR.out (by have := HS.out; have := HZ.out; omega) (show k < e.size by omega)
       obtain ⟨cy, fy⟩ := sw_at S1.out HR.out (by have := HS.out; have := HZ.out; omega) (show k + 1 < e.size by omega)
       rw [hx] at cx
       rw [hy] at cy
       obtain ⟨x0, x1, x2, x3, x4, x5, x6⟩ := cx
       obtain ⟨y0, y1, y2, y3, y4, y5, y6⟩ := cy
       obtain ⟨fx0, fx1, fx2, fx3, fx4, fx5, fx6⟩ := fx
       obtain ⟨fy0, fy1, fy2, fy3, fy4, fy5, fy6⟩ := fy
       clear hx hy hsw
       have mixed : Try.prog.follows .mixedOrders = true := by kernel_rfl
       go_wp2_with fail
       go_big_region_o
       refine with_world (P := fun x => Exit.inBlock _ _ _ _ x) _ ?_
       intro w3 hw3
       have S2 := Aside0.mk (show SWK e34 7 w0 blk off (swp e (k) (k + 1)) w3 from by rw [hw3]; exact HSW.out)
       clear hw3 HSW S1 x0 x1 x2 x3 x4 x5 x6 y0 y1 y2 y3 y4 y5 y6 fx0 fx1 fx2 fx3 fx4 fx5 fx6 fy0 fy1 fy2 fy3 fy4 fy5 fy6 mixed
       go_wp2
       go_roundw
       case rel => exact ⟨n + 1, by omega, by have := HK.out; first | (congr 2; omega) | go_num, ⟨by rw [EN.out]; exact S2.out⟩⟩
       case measure => have := HK.out; simp [intOf]; try omega
      ·have d3 : decide ((k : Int) < (i : Int) - 1) = false := decide_eq_false (by omega)
       have d4 : decide ((k : Int) + 1 < (i : Int)) = false := decide_eq_false (by omega)
       obtain rfl : n = i - 1 - a := by omega
       rw [hk]
       clear hk hz
       go_wp2
       refine bodyPost_ret (results_none rfl _ _ _) rfl ?_
       exact ⟨rfl, _, HM.out, S1.out⟩
  ·have f1 : IntKind.i64.wrap ((m : Int) - (a : Int)) = ((m - a : Nat) : Int) := by rw [IntKind.wrap_i64]; omega
   have f2 : (((m - a : Nat) : Int) == (1 : Int)) = false := beq_eq_false_iff_ne.mpr (by omega)
   have f2' : (m - a == 1) = false := beq_eq_false_iff_ne.mpr (by omega)
   have f5 : (m : Int) - (a : Int) = ((m - a : Nat) : Int) := by omega
   by_cases n2 : b = m + 1
   ·have f3 : IntKind.i64.wrap ((b : Int) - (m : Int)) = 1 := by rw [IntKind.wrap_i64]; omega
    have f6 : (b : Int) - (m : Int) = 1 := by omega
    have HBM := Aside0.mk n2
    have hb1 : m + 1 ≤ d.size := by omega
    clear hs h2 IH n2
    go_enter Try.func102, Try.ntmps102
    go_wp2
    clear f1 f2 f2' f5
    go_loopw [14, 15, 16, 83, 84, 85, 86, 87, 88, 89, 90, 91, 92, 93, 94, 95, 96, 97, 98, 99, 100, 101, 102, 103, 104, 105, 106] (fun v14 v15 _ _ _ _ _ _ _ _ _ _ _ _ _ _ _ _ _ _ _ _ _ _ _ _ _ wr => ∃ i j : Nat, a ≤ i ∧ i ≤ j ∧ j ≤ m ∧ v14 = .int .i64 i ∧ v15 = .int .i64 j ∧ Aside0 (∀ t, a ≤ t → t < i → ltC d[m]! d[t]! = false) ∧ Aside0 (∀ t, j ≤ t → t < m → ltC d[m]! d[t]! = true) ∧ Aside0 (SWK e34 7 w0 blk off d wr)) (fun v14 v15 _ _ _ _ _ _ _ _ _ _ _ _ _ _ _ _ _ _ _ _ _ _ _ _ _ _ => (intOf v15).toNat - (intOf v14).toNat)
    case atStart => exact ⟨a, m, Nat.le_refl _, by omega, Nat.le_refl _, rfl, rfl, ⟨fun t k1 k2 => by omega⟩, ⟨fun t k1 k2 => by omega⟩, S0⟩
    case round =>
     clear S0
     obtain ⟨i, j, hi1, hij, hjb, rfl, rfl, HB, HA, S1⟩ := hrel
     by_cases hlt : i < j
     ·have d1 : decide ((i : Int) < (j : Int)) = true := decide_eq_true (by omega)
      have d2 : decide (i < j) = true := decide_eq_true hlt
      obtain ⟨h, hh⟩ : ∃ h, (i + j) / 2 = h := ⟨_, rfl⟩
      have eh : ((i : Int) + (j : Int)) / 2 = (h : Int) := by omega
      have gh1 : i ≤ h := by omega
      have gh2 : h < j := by omega
      have ga : m < d.size := by omega
      have gh : h < d.size := by omega
      clear hh
      cases hl : ltC d[m]! d[h]! with
      | false =>
       have HL := Aside0.mk hl
       clear hl
       go_upto_region 17 with (fail)
       clear eh
       have hn_38314 : ((m : Int)).toNat = m := by omega
       have hp_38314 : (0 : Int) ≤ (m : Int) := by omega
       have hq_38314 : (m : Int) < (d.size : Int) := by omega
       have hw_38314 : IntKind.i64.wrap ((m : Int)) = (m : Int) := by rw [IntKind.wrap_i64]; omega
       have hn_3655 : ((h : Int)).toNat = h := by omega
       have hp_3655 : (0 : Int) ≤ (h : Int) := by omega
       have hq_3655 : (h : Int) < (d.size : Int) := by omega
       have hw_3655 : IntKind.i64.wrap ((h : Int)) = (h : Int) := by rw [IntKind.wrap_i64]; omega
       obtain ⟨x, hx⟩ : ∃ x, d[m]! = x := ⟨_, rfl⟩
       obtain ⟨y, hy⟩ : ∃ y, d[h]! = y := ⟨_, rfl⟩
       have cx := (sw_at S1.out HR.out (by have := HS.out; omega) (show m < d.size by omega)).1
       have cy := (sw_at S1.out HR.out (by have := HS.out; omega) (show h < d.size by omega)).1
       rw [hx] at cx
       rw [hy] at cy
       have hd : decide (cmpC x y < 0) = false := by rw [← hx, ← hy]; exact HL.out
       have hcall := fun n os => comp_grown S1.out HCB.out x y n os
       obtain ⟨x0, x1, x2, x3, x4, x5, x6⟩ := cx
       obtain ⟨y0, y1, y2, y3, y4, y5, y6⟩ := cy
       have x0 := cell_all x0
       have x1 := cell_all x1
       have x2 := cell_all x2
       have x3 := cell_all x3
       have x4 := cell_all x4
       have x5 := cell_all x5
       have x6 := cell_all x6
       have y0 := cell_all y0
       have y1 := cell_all y1
       have y2 := cell_all y2
       have y3 := cell_all y3
       have y4 := cell_all y4
       have y5 := cell_all y5
       have y6 := cell_all y6
       clear hx hy
       have mixed : Try.prog.follows .mixedOrders = true := by kernel_rfl
       go_wp2_with fail
       go_quiet_grown ((go_at_call 83; refine Calls.grown_of (hcall _ _)))
       have S2 := Aside0.mk (S1.out.grown nq osq)
       clear x0 x1 x2 x3 x4 x5 x6 y0 y1 y2 y3 y4 y5 y6 hcall S1 mixed
       generalize grow (wr.drewN nq) osq = w2 at S2 ⊢
       clear nq osq
       go_wp2
       go_roundw
       case rel => exact ⟨h + 1, j, by omega, by omega, hjb, by go_num, rfl, ⟨fun t k1 k2 => swo_C.ntrans _ _ _ HL.out (sorted_le swo_C LO.out k1 (by omega) (by omega))⟩, HA, S2⟩
       case measure => simp [intOf]; try omega
      | true =>
       have HL := Aside0.mk hl
       clear hl
       go_upto_region 17 with (fail)
       clear eh
       have hn_38314 : ((m : Int)).toNat = m := by omega
       have hp_38314 : (0 : Int) ≤ (m : Int) := by omega
       have hq_38314 : (m : Int) < (d.size : Int) := by omega
       have hw_38314 : IntKind.i64.wrap ((m : Int)) = (m : Int) := by rw [IntKind.wrap_i64]; omega
       have hn_3655 : ((h : Int)).toNat = h := by omega
       have hp_3655 : (0 : Int) ≤ (h : Int) := by omega
       have hq_3655 : (h : Int) < (d.size : Int) := by omega
       have hw_3655 : IntKind.i64.wrap ((h : Int)) = (h : Int) := by rw [IntKind.wrap_i64]; omega
       obtain ⟨x, hx⟩ : ∃ x, d[m]! = x := ⟨_, rfl⟩
       obtain ⟨y, hy⟩ : ∃ y, d[h]! = y := ⟨_, rfl⟩
       have cx := (sw_at S1.out HR.out (by have := HS.out; omega) (show m < d.size by omega)).1
       have cy := (sw_at S1.out HR.out (by have := HS.out; omega) (show h < d.size by omega)).1
       rw [hx] at cx
       rw [hy] at cy
       have hd : decide (cmpC x y < 0) = true := by rw [← hx, ← hy]; exact HL.out
       have hcall := fun n os => comp_grown S1.out HCB.out x y n os
       obtain ⟨x0, x1, x2, x3, x4, x5, x6⟩ := cx
       obtain ⟨y0, y1, y2, y3, y4, y5, y6⟩ := cy
       have x0 := cell_all x0
       have x1 := cell_all x1
       have x2 := cell_all x2
       have x3 := cell_all x3
       have x4 := cell_all x4
       have x5 := cell_all x5
       have x6 := cell_all x6
       have y0 := cell_all y0
       have y1 := cell_all y1
       have y2 := cell_all y2
       have y3 := cell_all y3
       have y4 := cell_all y4
       have y5 := cell_all y5
       have y6 := cell_all y6
       clear hx hy
       have mixed : Try.prog.follows .mixedOrders = true := by kernel_rfl
       go_wp2_with fail
       go_quiet_grown ((go_at_call 83; refine Calls.grown_of (hcall _ _)))
       have S2 := Aside0.mk (S1.out.grown nq osq)
       clear x0 x1 x2 x3 x4 x5 x6 y0 y1 y2 y3 y4 y5 y6 hcall S1 mixed
       generalize grow (wr.drewN nq) osq = w2 at S2 ⊢
       clear nq osq
       go_wp2
       go_roundw
       case rel => exact ⟨i, h, hi1, gh1, by omega, rfl, rfl, HB, ⟨fun t k1 k2 => le_lt_true HL.out (sorted_le swo_C LO.out (by omega) k1 k2)⟩, S2⟩
       case measure => simp [intOf]; try omega
     ·obtain rfl : i = j := by omega
      have d1 : decide ((i : Int) < (i : Int)) = false := decide_eq_false (by omega)
      have d2 : decide (i < i) = false := decide_eq_false (by omega)
      have HM := Aside0.mk (show Mrg ltC a b d (downN d m (m - i)) from by rw [HBM.out]; exact mrg_last swo_C h1 hb1 LO.out hi1 hjb HB.out HA.out)
      have S2 := Aside0.mk (show SWK e34 7 w0 blk off (downN d m 0) wr from S1.out)
      clear S1 HA HB
      go_wp2
      go_loopw [17, 108, 109, 110, 111, 112, 113, 114, 115, 116, 117, 118, 119, 120, 121, 122, 123, 124, 125, 126, 127, 128] (fun v17 _ _ _ _ _ _ _ _ _ _ _ _ _ _ _ _ _ _ _ _ _ wr => ∃ n : Nat, n ≤ m - i ∧ v17 = .int .i64 (m - n : Nat) ∧ Aside0 (SWK e34 7 w0 blk off (downN d m n) wr)) (fun v17 _ _ _ _ _ _ _ _ _ _ _ _ _ _ _ _ _ _ _ _ _ _ => (intOf v17).toNat)
      case atStart => exact ⟨0, Nat.zero_le _, rfl, S2⟩
      case round =>
       clear S2
       obtain ⟨n, hn, rfl, S1⟩ := hrel
       have hz := downN_size d m n
       obtain ⟨k, hk⟩ : ∃ k, m - n = k := ⟨_, rfl⟩
       by_cases hlt2 : n < m - i
       ·have d3 : decide ((i : Int) < (k : Int)) = true := decide_eq_true (by omega)
        have d4 : decide (i < k) = true := decide_eq_true (by omega)
        obtain ⟨p, hp⟩ : ∃ p, k = p + 1 := ⟨k - 1, by omega⟩
        subst hp
        obtain ⟨e, he⟩ : ∃ e, downN d m n = e := ⟨_, rfl⟩
        have EN := Aside0.mk (show downN d m (n + 1) = swp e (p + 1) p from by rw [← he]; show swp (downN d m n) (m - n) (m - n - 1) = _; rw [hk]; rfl)
        rw [he] at S1 hz
        rw [hk]
        have HK := Aside0.mk hk
        have HZ := Aside0.mk hz
        have gk : p + 1 < e.size := by omega
        have gk2 : p + 1 < d.size := by omega
        have e9 : IntKind.i64.wrap (p : Int) = (p : Int) := by rw [IntKind.wrap_i64]; omega
        have d5 : decide ((i : Int) < (p : Int) + 1) = true := decide_eq_true (by omega)
        clear he hk hz
        go_upto_region 23 with (fail)
        have hn_53579 : ((p : Int) + 1).toNat = p + 1 := by omega
        have hp_53579 : (0 : Int) ≤ (p : Int) + 1 := by omega
        have hq_53579 : (p : Int) + 1 < (d.size : Int) := by omega
        have hw_53579 : IntKind.i64.wrap ((p : Int) + 1) = (p : Int) + 1 := by rw [IntKind.wrap_i64]; omega
        have hn_46417 : ((p : Int)).toNat = p := by omega
        have hp_46417 : (0 : Int) ≤ (p : Int) := by omega
        have hq_46417 : (p : Int) < (d.size : Int) := by omega
        have hw_46417 : IntKind.i64.wrap ((p : Int)) = (p : Int) := by rw [IntKind.wrap_i64]; omega
        obtain ⟨x, hx⟩ : ∃ x, e[p + 1]! = x := ⟨_, rfl⟩
        obtain ⟨y, hy⟩ : ∃ y, e[p]! = y := ⟨_, rfl⟩
        have hsw := S1.out.swapped HR.out (p + 1) (p) (by omega) (by omega)
        rw [hx, hy, sets34, sets34] at hsw
        simp only [set_drew] at hsw
        have HSW := Aside0.mk hsw
        obtain ⟨cx, fx⟩ := sw_at S1.out HR.out (by have := HS.out; have := HZ.out; omega) (show p + 1 < e.size by omega)
        obtain ⟨cy, fy⟩ := sw_at S1.out HR.out (by have := HS.out; have := HZ.out; omega) (show p < e.size by omega)
        rw [hx] at cx
        rw [hy] at cy
        obtain ⟨x0, x1, x2, x3, x4, x5, x6⟩ := cx
        obtain ⟨y0, y1, y2, y3, y4, y5, y6⟩ := cy
        obtain ⟨fx0, fx1, fx2, fx3, fx4, fx5, fx6⟩ := fx
        obtain ⟨fy0, fy1, fy2, fy3, fy4, fy5, fy6⟩ := fy
        clear hx hy hsw
        have mixed : Try.prog.follows .mixedOrders = true := by kernel_rfl
        go_wp2_with fail
        go_big_region_o
        refine with_world (P := fun x => Exit.inBlock _ _ _ _ x) _ ?_
        intro w3 hw3
        have S2 := Aside0.mk (show SWK e34 7 w0 blk off (swp e (p + 1) (p)) w3 from by rw [hw3]; exact HSW.out)
        clear hw3 HSW S1 x0 x1 x2 x3 x4 x5 x6 y0 y1 y2 y3 y4 y5 y6 fx0 fx1 fx2 fx3 fx4 fx5 fx6 fy0 fy1 fy2 fy3 fy4 fy5 fy6 mixed
        go_wp2
        go_roundw
        case rel => exact ⟨n + 1, by have := HK.out; omega, by have := HK.out; first | (congr 2; omega) | go_num, ⟨by rw [EN.out]; exact S2.out⟩⟩
        case measure => have := HK.out; simp [intOf]; try omega
       ·have d3 : decide ((i : Int) < (k : Int)) = false := decide_eq_false (by omega)
        have d4 : decide (i < k) = false := decide_eq_false (by omega)
        obtain rfl : n = m - i := by omega
        rw [hk]
        clear hk hz
        go_wp2
        refine bodyPost_ret (results_none rfl _ _ _) rfl ?_
        exact ⟨rfl, _, HM.out, S1.out⟩
   ·have f3 : IntKind.i64.wrap ((b : Int) - (m : Int)) = ((b - m : Nat) : Int) := by rw [IntKind.wrap_i64]; omega
    have f4 : (((b - m : Nat) : Int) == (1 : Int)) = false := beq_eq_false_iff_ne.mpr (by omega)
    have f4' : (b - m == 1) = false := beq_eq_false_iff_ne.mpr (by omega)
    have f6 : (b : Int) - (m : Int) = ((b - m : Nat) : Int) := by omega
    obtain ⟨mid, hmid⟩ : ∃ mid, (a + b) / 2 = mid := ⟨_, rfl⟩
    have em : ((a : Int) + (b : Int)) / 2 = (mid : Int) := by omega
    obtain ⟨n, hn⟩ : ∃ n, mid + m = n := ⟨_, rfl⟩
    have en : (mid : Int) + (m : Int) = (n : Int) := by omega
    obtain ⟨q, hq⟩ : ∃ q, n - 1 = q := ⟨_, rfl⟩
    have eq' : (n : Int) - 1 = (q : Int) := by omega
    obtain ⟨s0, hs0⟩ : ∃ s0, sStart a m b = s0 := ⟨_, rfl⟩
    obtain ⟨r0, hr0⟩ : ∃ r0, sEnd a m b = r0 := ⟨_, rfl⟩
    have HS0 := Aside0.mk hs0
    have HR0 := Aside0.mk hr0
    have HMID := Aside0.mk hmid
    have HN := Aside0.mk hn
    have HQ := Aside0.mk hq
    have HST0 := Aside0.mk (show Srch ltC d ((a + b) / 2 + m - 1) (sStart a m b) (sEnd a m b) s0 r0 from by rw [← hs0, ← hr0]; exact srch_start (s_le h1 h2))
    have z7 : (mid : Int) ≤ (mid : Int) := by omega
    by_cases hmm : mid < m
    ·have z1 : decide ((mid : Int) < (m : Int)) = true := decide_eq_true (by omega)
     have z2 : decide (mid < m) = true := decide_eq_true hmm
     have es : (n : Int) - (b : Int) = (s0 : Int) := by unfold sStart at hs0; rw [if_pos (by omega)] at hs0; omega
     have hr1 : mid = r0 := by unfold sEnd at hr0; rw [if_pos (by omega)] at hr0; omega
     have HR1 := Aside0.mk hr1
     clear hs0 hr0 hmid hn hq hs hr1 z7
     go_enter Try.func102, Try.ntmps102
     go_wp2
     clear f1 f2 f2' f5 f3 f4 f4' f6 em en eq' es z1 z2
     go_loopw [20, 21, 23, 149, 150, 151, 152, 153, 154, 155, 156, 157, 158, 159, 160, 161, 162, 163, 164, 165, 166, 167, 168, 169, 170, 171, 172, 173, 174] (fun v20 v21 _ _ _ _ _ _ _ _ _ _ _ _ _ _ _ _ _ _ _ _ _ _ _ _ _ _ _ wr => ∃ s r : Nat, v20 = .int .i64 s ∧ v21 = .int .i64 r ∧ Aside0 (Srch ltC d ((a + b) / 2 + m - 1) (sStart a m b) (sEnd a m b) s r) ∧ Aside0 (SWK e34 7 w0 blk off d wr)) (fun v20 v21 _ _ _ _ _ _ _ _ _ _ _ _ _ _ _ _ _ _ _ _ _ _ _ _ _ _ _ _ => (intOf v21).toNat - (intOf v20).toNat)
     case atStart => exact ⟨s0, r0, rfl, by rw [← HR1.out], HST0, S0⟩
     case round =>
      clear S0 HST0
      obtain ⟨s, r, rfl, rfl, HST, S1⟩ := hrel
      have hxy := HST.out.hxy
      have hx1 := HST.out.hx
      have hy1 := HST.out.hy
      have hse : sEnd a m b ≤ m := by unfold sEnd; split <;> omega
      have hmid := HMID.out
      have hn := HN.out
      have hq := HQ.out
      by_cases hlt : s < r
      ·have d1 : decide ((s : Int) < (r : Int)) = true := decide_eq_true (by omega)
       have d2 : decide (s < r) = true := decide_eq_true hlt
       obtain ⟨c, hc⟩ : ∃ c, (s + r) / 2 = c := ⟨_, rfl⟩
       have ec : ((s : Int) + (r : Int)) / 2 = (c : Int) := by omega
       have gc1 : s ≤ c := by omega
       have gc2 : c < r := by omega
       obtain ⟨b1, b2, b3, b4⟩ := s_bounds h1 h2 (show sStart a m b ≤ c by omega) (show c < sEnd a m b by omega)
       obtain ⟨u, hu⟩ : ∃ u, (a + b) / 2 + m - 1 - c = u := ⟨_, rfl⟩
       have eu : (q : Int) - (c : Int) = (u : Int) := by omega
       have gu : u < d.size := by omega
       have gc : c < d.size := by omega
       have hxb : s < 2305843009213693952 := by omega
       have hyb : r < 2305843009213693952 := by omega
       have HU := Aside0.mk hu
       have GE := Aside0.mk eu
       clear hc hu b1 b2 b3 b4 hmid hn hq hx1 hy1 eu
       cases hl : ltC d[u]! d[c]! with
       | false =>
        have HL := Aside0.mk hl
        clear hl
        go_upto_region 35 with (fail)
        clear ec
        have eu := GE.out
        have eu2 : IntKind.i64.wrap ((q : Int) - (c : Int)) = (u : Int) := by rw [eu, IntKind.wrap_i64]; omega
        have hn_39321 : ((u : Int)).toNat = u := by omega
        have hp_39321 : (0 : Int) ≤ (u : Int) := by omega
        have hq_39321 : (u : Int) < (d.size : Int) := by omega
        have hw_39321 : IntKind.i64.wrap ((u : Int)) = (u : Int) := by rw [IntKind.wrap_i64]; omega
        have hn_75478 : ((c : Int)).toNat = c := by omega
        have hp_75478 : (0 : Int) ≤ (c : Int) := by omega
        have hq_75478 : (c : Int) < (d.size : Int) := by omega
        have hw_75478 : IntKind.i64.wrap ((c : Int)) = (c : Int) := by rw [IntKind.wrap_i64]; omega
        obtain ⟨x, hx⟩ : ∃ x, d[u]! = x := ⟨_, rfl⟩
        obtain ⟨y, hy⟩ : ∃ y, d[c]! = y := ⟨_, rfl⟩
        have cx := (sw_at S1.out HR.out (by have := HS.out; omega) (show u < d.size by omega)).1
        have cy := (sw_at S1.out HR.out (by have := HS.out; omega) (show c < d.size by omega)).1
        rw [hx] at cx
        rw [hy] at cy
        have hd : decide (cmpC x y < 0) = false := by rw [← hx, ← hy]; exact HL.out
        have hcall := fun n os => comp_grown S1.out HCB.out x y n os
        obtain ⟨x0, x1, x2, x3, x4, x5, x6⟩ := cx
        obtain ⟨y0, y1, y2, y3, y4, y5, y6⟩ := cy
        have x0 := cell_all x0
        have x1 := cell_all x1
        have x2 := cell_all x2
        have x3 := cell_all x3
        have x4 := cell_all x4
        have x5 := cell_all x5
        have x6 := cell_all x6
        have y0 := cell_all y0
        have y1 := cell_all y1
        have y2 := cell_all y2
        have y3 := cell_all y3
        have y4 := cell_all y4
        have y5 := cell_all y5
        have y6 := cell_all y6
        clear hx hy
        have mixed : Try.prog.follows .mixedOrders = true := by kernel_rfl
        go_wp2_with fail
        go_quiet_grown ((go_at_call 83; refine Calls.grown_of (hcall _ _)))
        have S2 := Aside0.mk (S1.out.grown nq osq)
        clear x0 x1 x2 x3 x4 x5 x6 y0 y1 y2 y3 y4 y5 y6 hcall S1 mixed
        generalize grow (wr.drewN nq) osq = w2 at S2 ⊢
        clear nq osq
        clear eu eu2
        go_wp2
        go_roundw
        case rel => exact ⟨c + 1, r, by go_num, rfl, ⟨HST.out.less swo_C LO.out HI.out h1 h2 gc1 gc2 (by rw [HU.out]; exact HL.out)⟩, S2⟩
        case measure => simp [intOf]; try omega
       | true =>
        have HL := Aside0.mk hl
        clear hl
        go_upto_region 35 with (fail)
        clear ec
        have eu := GE.out
        have eu2 : IntKind.i64.wrap ((q : Int) - (c : Int)) = (u : Int) := by rw [eu, IntKind.wrap_i64]; omega
        have hn_39321 : ((u : Int)).toNat = u := by omega
        have hp_39321 : (0 : Int) ≤ (u : Int) := by omega
        have hq_39321 : (u : Int) < (d.size : Int) := by omega
        have hw_39321 : IntKind.i64.wrap ((u : Int)) = (u : Int) := by rw [IntKind.wrap_i64]; omega
        have hn_75478 : ((c : Int)).toNat = c := by omega
        have hp_75478 : (0 : Int) ≤ (c : Int) := by omega
        have hq_75478 : (c : Int) < (d.size : Int) := by omega
        have hw_75478 : IntKind.i64.wrap ((c : Int)) = (c : Int) := by rw [IntKind.wrap_i64]; omega
        obtain ⟨x, hx⟩ : ∃ x, d[u]! = x := ⟨_, rfl⟩
        obtain ⟨y, hy⟩ : ∃ y, d[c]! = y := ⟨_, rfl⟩
        have cx := (sw_at S1.out HR.out (by have := HS.out; omega) (show u < d.size by omega)).1
        have cy := (sw_at S1.out HR.out (by have := HS.out; omega) (show c < d.size by omega)).1
        rw [hx] at cx
        rw [hy] at cy
        have hd : decide (cmpC x y < 0) = true := by rw [← hx, ← hy]; exact HL.out
        have hcall := fun n os => comp_grown S1.out HCB.out x y n os
        obtain ⟨x0, x1, x2, x3, x4, x5, x6⟩ := cx
        obtain ⟨y0, y1, y2, y3, y4, y5, y6⟩ := cy
        have x0 := cell_all x0
        have x1 := cell_all x1
        have x2 := cell_all x2
        have x3 := cell_all x3
        have x4 := cell_all x4
        have x5 := cell_all x5
        have x6 := cell_all x6
        have y0 := cell_all y0
        have y1 := cell_all y1
        have y2 := cell_all y2
        have y3 := cell_all y3
        have y4 := cell_all y4
        have y5 := cell_all y5
        have y6 := cell_all y6
        clear hx hy
        have mixed : Try.prog.follows .mixedOrders = true := by kernel_rfl
        go_wp2_with fail
        go_quiet_grown ((go_at_call 83; refine Calls.grown_of (hcall _ _)))
        have S2 := Aside0.mk (S1.out.grown nq osq)
        clear x0 x1 x2 x3 x4 x5 x6 y0 y1 y2 y3 y4 y5 y6 hcall S1 mixed
        generalize grow (wr.drewN nq) osq = w2 at S2 ⊢
        clear nq osq
        clear eu eu2
        go_wp2
        go_roundw
        case rel => exact ⟨s, c, rfl, rfl, ⟨HST.out.more swo_C LO.out HI.out h1 h2 gc1 gc2 (by rw [HU.out]; exact HL.out)⟩, S2⟩
        case measure => simp [intOf]; try omega
      ·obtain rfl : s = r := by omega
       have d1 : decide ((s : Int) < (s : Int)) = false := decide_eq_false (by omega)
       have d2 : decide (s < s) = false := decide_eq_false (by omega)
       have HCT := Aside0.mk (HST.out.cut swo_C LO.out HI.out h1 h2)
       clear HST
       obtain ⟨t, ht⟩ : ∃ t, n - s = t := ⟨_, rfl⟩
       have et : (n : Int) - (s : Int) = (t : Int) := by omega
       obtain ⟨hcut, hxm⟩ := HCT.out
       rw [show (a + b) / 2 + m - s = t by omega] at hcut hxm
       rw [hmid] at hxm
       have k1 := hcut.has
       have k2 := hcut.hsm
       have k3 := hcut.hmn
       have k4 := hcut.hnb
       have HCD := Aside0.mk hcut
       clear hcut HCT
       by_cases cP : s < m
       ·by_cases cQ : m < t
        ·by_cases cA : a < s
         ·by_cases cB : t < b
          ·have zp1 : decide ((s : Int) < (m : Int)) = true := decide_eq_true (by omega)
           have zp2 : decide (s < m) = true := decide_eq_true (by omega)
           have zq1 : decide ((m : Int) < (t : Int)) = true := decide_eq_true (by omega)
           have zq2 : decide (m < t) = true := decide_eq_true (by omega)
           have za1 : decide ((a : Int) < (s : Int)) = true := decide_eq_true (by omega)
           have za2 : decide (a < s) = true := decide_eq_true (by omega)
           have zx1 : decide ((s : Int) < (mid : Int)) = true := decide_eq_true (by omega)
           have zx2 : decide (s < mid) = true := decide_eq_true (by omega)
           have zt1 : decide ((mid : Int) < (t : Int)) = true := decide_eq_true (by omega)
           have zt2 : decide (mid < t) = true := decide_eq_true (by omega)
           have zb1 : decide ((t : Int) < (b : Int)) = true := decide_eq_true (by omega)
           have zb2 : decide (t < b) = true := decide_eq_true (by omega)
           have HSX := Aside0.mk (show d.size = d.size from rfl)
           have hr_d : a < mid := by omega
           have hr_e : mid < b := by omega
           have HRT := Aside0.mk (rotate_calls blk off cap s m t d0 d w0 wr (.func (.func 83) #[] #[.pointer (some ⟨pc, 0, none⟩), .pointer (some ⟨pk, 0, none⟩)]) HR.out HS.out S1.out (by omega) (by omega) (by omega) hsz)
           go_wp2_with (first | (go_at_call 103; refine HRT.out.mono ?_; rintro e_ w2 ⟨rfl, e, hr_, hs_⟩; have S2 := Aside0.mk hs_; have HRO := Aside0.mk hr_; have HRN := Aside0.mk (HCD.out.runs hr_); clear hs_ hr_) | (go_at_call 102; (with_reducible refine (IH.out a s mid e _ (by omega) (by have := HRO.out.size; omega) S2.out (by omega) (by omega) (by have := HRO.out.size; omega) HRN.out.1 (by have h_ := HRN.out.2.1; rw [hxm] at h_; exact h_)).mono ?_); rintro e_ w4 ⟨rfl, e1, hm_, hs_⟩; have S4 := Aside0.mk hs_; have HM1 := Aside0.mk hm_; clear hs_ hm_) | (go_at_call 102; have z_ := (show e1.size = e.size from HM1.out.perm.1); have q1_ : SortedIn ltC mid t e1 := (fun i j g1 g2 g3 => by rw [HM1.out.perm.2.1 i (.inr (by omega)), HM1.out.perm.2.1 j (.inr (by omega))]; have h_ := HRN.out.2.2.1; rw [hxm] at h_; exact h_ i j g1 g2 g3); have q2_ : SortedIn ltC t b e1 := (fun i j g1 g2 g3 => by rw [HM1.out.perm.2.1 i (.inr (by omega)), HM1.out.perm.2.1 j (.inr (by omega))]; exact HRN.out.2.2.2.1 i j g1 g2 g3); (with_reducible refine (IH.out mid t b e1 _ (by omega) (by have := HRO.out.size; omega) S4.out (by omega) (by omega) (by have := HRO.out.size; omega) q1_ q2_).mono ?_); rintro e_ w5 ⟨rfl, e2, hm_, hs_⟩; have S5 := Aside0.mk hs_; have HM2 := Aside0.mk hm_; clear hs_ hm_ q1_ q2_))
           go_end0
           refine ⟨rfl, e2, HCD.out.merged h3 HRO.out (e1 := e1) ?_ ?_, S5.out⟩
           ·rw [hxm]; exact HM1.out
           ·rw [hxm]; exact HM2.out
          ·have zp1 : decide ((s : Int) < (m : Int)) = true := decide_eq_true (by omega)
           have zp2 : decide (s < m) = true := decide_eq_true (by omega)
           have zq1 : decide ((m : Int) < (t : Int)) = true := decide_eq_true (by omega)
           have zq2 : decide (m < t) = true := decide_eq_true (by omega)
           have za1 : decide ((a : Int) < (s : Int)) = true := decide_eq_true (by omega)
           have za2 : decide (a < s) = true := decide_eq_true (by omega)
           have zx1 : decide ((s : Int) < (mid : Int)) = true := decide_eq_true (by omega)
           have zx2 : decide (s < mid) = true := decide_eq_true (by omega)
           have zt1 : decide ((mid : Int) < (t : Int)) = true := decide_eq_true (by omega)
           have zt2 : decide (mid < t) = true := decide_eq_true (by omega)
           have zb1 : decide ((t : Int) < (b : Int)) = false := decide_eq_false (by omega)
           have zb2 : decide (t < b) = false := decide_eq_false (by omega)
           have HSX := Aside0.mk (show d.size = d.size from rfl)
           have hr_d : a < mid := by omega
           have hr_e : mid < b := by omega
           have HRT := Aside0.mk (rotate_calls blk off cap s m t d0 d w0 wr (.func (.func 83) #[] #[.pointer (some ⟨pc, 0, none⟩), .pointer (some ⟨pk, 0, none⟩)]) HR.out HS.out S1.out (by omega) (by omega) (by omega) hsz)
           go_wp2_with (first | (go_at_call 103; refine HRT.out.mono ?_; rintro e_ w2 ⟨rfl, e, hr_, hs_⟩; have S2 := Aside0.mk hs_; have HRO := Aside0.mk hr_; have HRN := Aside0.mk (HCD.out.runs hr_); clear hs_ hr_) | (go_at_call 102; (with_reducible refine (IH.out a s mid e _ (by omega) (by have := HRO.out.size; omega) S2.out (by omega) (by omega) (by have := HRO.out.size; omega) HRN.out.1 (by have h_ := HRN.out.2.1; rw [hxm] at h_; exact h_)).mono ?_); rintro e_ w4 ⟨rfl, e1, hm_, hs_⟩; have S4 := Aside0.mk hs_; have HM1 := Aside0.mk hm_; clear hs_ hm_))
           go_end0
           have HM2 := Aside0.mk (show Mrg ltC mid b e1 e1 from Mrg.refl (fun i j g1 g2 g3 => by rw [HM1.out.perm.2.1 i (.inr (by omega)), HM1.out.perm.2.1 j (.inr (by omega))]; exact HRN.out.2.2.1 i j (by omega) g2 (by omega)))
           refine ⟨rfl, e1, HCD.out.merged h3 HRO.out (e1 := e1) ?_ ?_, S4.out⟩
           ·rw [hxm]; exact HM1.out
           ·rw [hxm]; exact HM2.out
         ·by_cases cB : t < b
          ·have zp1 : decide ((s : Int) < (m : Int)) = true := decide_eq_true (by omega)
           have zp2 : decide (s < m) = true := decide_eq_true (by omega)
           have zq1 : decide ((m : Int) < (t : Int)) = true := decide_eq_true (by omega)
           have zq2 : decide (m < t) = true := decide_eq_true (by omega)
           have za1 : decide ((a : Int) < (s : Int)) = false := decide_eq_false (by omega)
           have za2 : decide (a < s) = false := decide_eq_false (by omega)
           have zx1 : decide ((s : Int) < (mid : Int)) = true := decide_eq_true (by omega)
           have zx2 : decide (s < mid) = true := decide_eq_true (by omega)
           have zt1 : decide ((mid : Int) < (t : Int)) = true := decide_eq_true (by omega)
           have zt2 : decide (mid < t) = true := decide_eq_true (by omega)
           have zb1 : decide ((t : Int) < (b : Int)) = true := decide_eq_true (by omega)
           have zb2 : decide (t < b) = true := decide_eq_true (by omega)
           have HSX := Aside0.mk (show d.size = d.size from rfl)
           have hr_d : a < mid := by omega
           have hr_e : mid < b := by omega
           have HRT := Aside0.mk (rotate_calls blk off cap s m t d0 d w0 wr (.func (.func 83) #[] #[.pointer (some ⟨pc, 0, none⟩), .pointer (some ⟨pk, 0, none⟩)]) HR.out HS.out S1.out (by omega) (by omega) (by omega) hsz)
           go_wp2_with (first | (go_at_call 103; refine HRT.out.mono ?_; rintro e_ w2 ⟨rfl, e, hr_, hs_⟩; have S2 := Aside0.mk hs_; have HRO := Aside0.mk hr_; have HRN := Aside0.mk (HCD.out.runs hr_); clear hs_ hr_) | (go_at_call 102; have q1_ : SortedIn ltC mid t e := (fun i j g1 g2 g3 => by have h_ := HRN.out.2.2.1; rw [hxm] at h_; exact h_ i j g1 g2 g3); have q2_ : SortedIn ltC t b e := (fun i j g1 g2 g3 => by exact HRN.out.2.2.2.1 i j g1 g2 g3); (with_reducible refine (IH.out mid t b e _ (by omega) (by have := HRO.out.size; omega) S2.out (by omega) (by omega) (by have := HRO.out.size; omega) q1_ q2_).mono ?_); rintro e_ w5 ⟨rfl, e2, hm_, hs_⟩; have S5 := Aside0.mk hs_; have HM2 := Aside0.mk hm_; clear hs_ hm_ q1_ q2_))
           go_end0
           have HM1 := Aside0.mk (show Mrg ltC a mid e e from Mrg.refl (sorted_sub (show SortedIn ltC s (s + (t - m)) e from HRN.out.2.1) (by omega) (by omega)))
           refine ⟨rfl, e2, HCD.out.merged h3 HRO.out (e1 := e) ?_ ?_, S5.out⟩
           ·rw [hxm]; exact HM1.out
           ·rw [hxm]; exact HM2.out
          ·have zp1 : decide ((s : Int) < (m : Int)) = true := decide_eq_true (by omega)
           have zp2 : decide (s < m) = true := decide_eq_true (by omega)
           have zq1 : decide ((m : Int) < (t : Int)) = true := decide_eq_true (by omega)
           have zq2 : decide (m < t) = true := decide_eq_true (by omega)
           have za1 : decide ((a : Int) < (s : Int)) = false := decide_eq_false (by omega)
           have za2 : decide (a < s) = false := decide_eq_false (by omega)
           have zx1 : decide ((s : Int) < (mid : Int)) = true := decide_eq_true (by omega)
           have zx2 : decide (s < mid) = true := decide_eq_true (by omega)
           have zt1 : decide ((mid : Int) < (t : Int)) = true := decide_eq_true (by omega)
           have zt2 : decide (mid < t) = true := decide_eq_true (by omega)
           have zb1 : decide ((t : Int) < (b : Int)) = false := decide_eq_false (by omega)
           have zb2 : decide (t < b) = false := decide_eq_false (by omega)
           have HSX := Aside0.mk (show d.size = d.size from rfl)
           have hr_d : a < mid := by omega
           have hr_e : mid < b := by omega
           have HRT := Aside0.mk (rotate_calls blk off cap s m t d0 d w0 wr (.func (.func 83) #[] #[.pointer (some ⟨pc, 0, none⟩), .pointer (some ⟨pk, 0, none⟩)]) HR.out HS.out S1.out (by omega) (by omega) (by omega) hsz)
           go_wp2_with (first | (go_at_call 103; refine HRT.out.mono ?_; rintro e_ w2 ⟨rfl, e, hr_, hs_⟩; have S2 := Aside0.mk hs_; have HRO := Aside0.mk hr_; have HRN := Aside0.mk (HCD.out.runs hr_); clear hs_ hr_))
           go_end0
           have HM1 := Aside0.mk (show Mrg ltC a mid e e from Mrg.refl (sorted_sub (show SortedIn ltC s (s + (t - m)) e from HRN.out.2.1) (by omega) (by omega)))
           have HM2 := Aside0.mk (show Mrg ltC mid b e e from Mrg.refl (fun i j g1 g2 g3 => by exact HRN.out.2.2.1 i j (by omega) g2 (by omega)))
           refine ⟨rfl, e, HCD.out.merged h3 HRO.out (e1 := e) ?_ ?_, S2.out⟩
           ·rw [hxm]; exact HM1.out
           ·rw [hxm]; exact HM2.out
        ·by_cases cA : a < s
         ·by_cases cB : t < b
          ·have zp1 : decide ((s : Int) < (m : Int)) = true := decide_eq_true (by omega)
           have zp2 : decide (s < m) = true := decide_eq_true (by omega)
           have zq1 : decide ((m : Int) < (t : Int)) = false := decide_eq_false (by omega)
           have zq2 : decide (m < t) = false := decide_eq_false (by omega)
           have za1 : decide ((a : Int) < (s : Int)) = true := decide_eq_true (by omega)
           have za2 : decide (a < s) = true := decide_eq_true (by omega)
           have zx1 : decide ((s : Int) < (mid : Int)) = false := decide_eq_false (by omega)
           have zx2 : decide (s < mid) = false := decide_eq_false (by omega)
           have zt1 : decide ((mid : Int) < (t : Int)) = true := decide_eq_true (by omega)
           have zt2 : decide (mid < t) = true := decide_eq_true (by omega)
           have zb1 : decide ((t : Int) < (b : Int)) = true := decide_eq_true (by omega)
           have zb2 : decide (t < b) = true := decide_eq_true (by omega)
           have HSX := Aside0.mk (show d.size = d.size from rfl)
           have hr_d : a < mid := by omega
           have hr_e : mid < b := by omega
           have HRO := Aside0.mk (rot_none (d := d) (show s = m ∨ m = t by omega) k2 k3)
           have HRN := Aside0.mk (HCD.out.runs HRO.out)
           have S2 := S1
           go_wp2_with (first | (go_at_call 102; have q1_ : SortedIn ltC mid t d := (fun i j g1 g2 g3 => by have h_ := HRN.out.2.2.1; rw [hxm] at h_; exact h_ i j g1 g2 g3); have q2_ : SortedIn ltC t b d := (fun i j g1 g2 g3 => by exact HRN.out.2.2.2.1 i j g1 g2 g3); (with_reducible refine (IH.out mid t b d _ (by omega) (by have := HRO.out.size; omega) S2.out (by omega) (by omega) (by have := HRO.out.size; omega) q1_ q2_).mono ?_); rintro e_ w5 ⟨rfl, e2, hm_, hs_⟩; have S5 := Aside0.mk hs_; have HM2 := Aside0.mk hm_; clear hs_ hm_ q1_ q2_))
           go_end0
           have HM1 := Aside0.mk (show Mrg ltC a mid d d from Mrg.refl (sorted_sub HRN.out.1 (Nat.le_refl _) (by omega)))
           refine ⟨rfl, e2, HCD.out.merged h3 HRO.out (e1 := d) ?_ ?_, S5.out⟩
           ·rw [hxm]; exact HM1.out
           ·rw [hxm]; exact HM2.out
          ·exfalso; omega
         ·by_cases cB : t < b
          ·have zp1 : decide ((s : Int) < (m : Int)) = true := decide_eq_true (by omega)
           have zp2 : decide (s < m) = true := decide_eq_true (by omega)
           have zq1 : decide ((m : Int) < (t : Int)) = false := decide_eq_false (by omega)
           have zq2 : decide (m < t) = false := decide_eq_false (by omega)
           have za1 : decide ((a : Int) < (s : Int)) = false := decide_eq_false (by omega)
           have za2 : decide (a < s) = false := decide_eq_false (by omega)
           have zx1 : decide ((s : Int) < (mid : Int)) = false := decide_eq_false (by omega)
           have zx2 : decide (s < mid) = false := decide_eq_false (by omega)
           have zt1 : decide ((mid : Int) < (t : Int)) = true := decide_eq_true (by omega)
           have zt2 : decide (mid < t) = true := decide_eq_true (by omega)
           have zb1 : decide ((t : Int) < (b : Int)) = true := decide_eq_true (by omega)
           have zb2 : decide (t < b) = true := decide_eq_true (by omega)
           have HSX := Aside0.mk (show d.size = d.size from rfl)
           have hr_d : a < mid := by omega
           have hr_e : mid < b := by omega
           have HRO := Aside0.mk (rot_none (d := d) (show s = m ∨ m = t by omega) k2 k3)
           have HRN := Aside0.mk (HCD.out.runs HRO.out)
           have S2 := S1
           go_wp2_with (first | (go_at_call 102; have q1_ : SortedIn ltC mid t d := (fun i j g1 g2 g3 => by have h_ := HRN.out.2.2.1; rw [hxm] at h_; exact h_ i j g1 g2 g3); have q2_ : SortedIn ltC t b d := (fun i j g1 g2 g3 => by exact HRN.out.2.2.2.1 i j g1 g2 g3); (with_reducible refine (IH.out mid t b d _ (by omega) (by have := HRO.out.size; omega) S2.out (by omega) (by omega) (by have := HRO.out.size; omega) q1_ q2_).mono ?_); rintro e_ w5 ⟨rfl, e2, hm_, hs_⟩; have S5 := Aside0.mk hs_; have HM2 := Aside0.mk hm_; clear hs_ hm_ q1_ q2_))
           go_end0
           have HM1 := Aside0.mk (show Mrg ltC a mid d d from Mrg.refl (sorted_sub (show SortedIn ltC s (s + (t - m)) d from HRN.out.2.1) (by omega) (by omega)))
           refine ⟨rfl, e2, HCD.out.merged h3 HRO.out (e1 := d) ?_ ?_, S5.out⟩
           ·rw [hxm]; exact HM1.out
           ·rw [hxm]; exact HM2.out
          ·exfalso; omega
       ·by_cases cQ : m < t
        ·by_cases cA : a < s
         ·by_cases cB : t < b
          ·have zp1 : decide ((s : Int) < (m : Int)) = false := decide_eq_false (by omega)
           have zp2 : decide (s < m) = false := decide_eq_false (by omega)
           have zq1 : decide ((m : Int) < (t : Int)) = true := decide_eq_true (by omega)
           have zq2 : decide (m < t) = true := decide_eq_true (by omega)
           have za1 : decide ((a : Int) < (s : Int)) = true := decide_eq_true (by omega)
           have za2 : decide (a < s) = true := decide_eq_true (by omega)
           have zx1 : decide ((s : Int) < (mid : Int)) = true := decide_eq_true (by omega)
           have zx2 : decide (s < mid) = true := decide_eq_true (by omega)
           have zt1 : decide ((mid : Int) < (t : Int)) = false := decide_eq_false (by omega)
           have zt2 : decide (mid < t) = false := decide_eq_false (by omega)
           have zb1 : decide ((t : Int) < (b : Int)) = true := decide_eq_true (by omega)
           have zb2 : decide (t < b) = true := decide_eq_true (by omega)
           have HSX := Aside0.mk (show d.size = d.size from rfl)
           have hr_d : a < mid := by omega
           have hr_e : mid < b := by omega
           have HRO := Aside0.mk (rot_none (d := d) (show s = m ∨ m = t by omega) k2 k3)
           have HRN := Aside0.mk (HCD.out.runs HRO.out)
           have S2 := S1
           go_wp2_with (first | (go_at_call 102; (with_reducible refine (IH.out a s mid d _ (by omega) (by have := HRO.out.size; omega) S2.out (by omega) (by omega) (by have := HRO.out.size; omega) HRN.out.1 (by have h_ := HRN.out.2.1; rw [hxm] at h_; exact h_)).mono ?_); rintro e_ w4 ⟨rfl, e1, hm_, hs_⟩; have S4 := Aside0.mk hs_; have HM1 := Aside0.mk hm_; clear hs_ hm_))
           go_end0
           have HM2 := Aside0.mk (show Mrg ltC mid b e1 e1 from Mrg.refl (fun i j g1 g2 g3 => by rw [HM1.out.perm.2.1 i (.inr (by omega)), HM1.out.perm.2.1 j (.inr (by omega))]; exact HRN.out.2.2.2.1 i j (by omega) g2 (by omega)))
           refine ⟨rfl, e1, HCD.out.merged h3 HRO.out (e1 := e1) ?_ ?_, S4.out⟩
           ·rw [hxm]; exact HM1.out
           ·rw [hxm]; exact HM2.out
          ·have zp1 : decide ((s : Int) < (m : Int)) = false := decide_eq_false (by omega)
           have zp2 : decide (s < m) = false := decide_eq_false (by omega)
           have zq1 : decide ((m : Int) < (t : Int)) = true := decide_eq_true (by omega)
           have zq2 : decide (m < t) = true := decide_eq_true (by omega)
           have za1 : decide ((a : Int) < (s : Int)) = true := decide_eq_true (by omega)
           have za2 : decide (a < s) = true := decide_eq_true (by omega)
           have zx1 : decide ((s : Int) < (mid : Int)) = true := decide_eq_true (by omega)
           have zx2 : decide (s < mid) = true := decide_eq_true (by omega)
           have zt1 : decide ((mid : Int) < (t : Int)) = false := decide_eq_false (by omega)
           have zt2 : decide (mid < t) = false := decide_eq_false (by omega)
           have zb1 : decide ((t : Int) < (b : Int)) = false := decide_eq_false (by omega)
           have zb2 : decide (t < b) = false := decide_eq_false (by omega)
           have HSX := Aside0.mk (show d.size = d.size from rfl)
           have hr_d : a < mid := by omega
           have hr_e : mid < b := by omega
           have HRO := Aside0.mk (rot_none (d := d) (show s = m ∨ m = t by omega) k2 k3)
           have HRN := Aside0.mk (HCD.out.runs HRO.out)
           have S2 := S1
           go_wp2_with (first | (go_at_call 102; (with_reducible refine (IH.out a s mid d _ (by omega) (by have := HRO.out.size; omega) S2.out (by omega) (by omega) (by have := HRO.out.size; omega) HRN.out.1 (by have h_ := HRN.out.2.1; rw [hxm] at h_; exact h_)).mono ?_); rintro e_ w4 ⟨rfl, e1, hm_, hs_⟩; have S4 := Aside0.mk hs_; have HM1 := Aside0.mk hm_; clear hs_ hm_))
           go_end0
           have HM2 := Aside0.mk (show Mrg ltC mid b e1 e1 from Mrg.refl (fun i j g1 g2 g3 => by rw [HM1.out.perm.2.1 i (.inr (by omega)), HM1.out.perm.2.1 j (.inr (by omega))]; exact HRN.out.2.2.2.1 i j (by omega) g2 (by omega)))
           refine ⟨rfl, e1, HCD.out.merged h3 HRO.out (e1 := e1) ?_ ?_, S4.out⟩
           ·rw [hxm]; exact HM1.out
           ·rw [hxm]; exact HM2.out
         ·by_cases cB : t < b
          ·exfalso; omega
          ·exfalso; omega
        ·by_cases cA : a < s
         ·by_cases cB : t < b
          ·have zp1 : decide ((s : Int) < (m : Int)) = false := decide_eq_false (by omega)
           have zp2 : decide (s < m) = false := decide_eq_false (by omega)
           have zq1 : decide ((m : Int) < (t : Int)) = false := decide_eq_false (by omega)
           have zq2 : decide (m < t) = false := decide_eq_false (by omega)
           have za1 : decide ((a : Int) < (s : Int)) = true := decide_eq_true (by omega)
           have za2 : decide (a < s) = true := decide_eq_true (by omega)
           have zx1 : decide ((s : Int) < (mid : Int)) = false := decide_eq_false (by omega)
           have zx2 : decide (s < mid) = false := decide_eq_false (by omega)
           have zt1 : decide ((mid : Int) < (t : Int)) = false := decide_eq_false (by omega)
           have zt2 : decide (mid < t) = false := decide_eq_false (by omega)
           have zb1 : decide ((t : Int) < (b : Int)) = true := decide_eq_true (by omega)
           have zb2 : decide (t < b) = true := decide_eq_true (by omega)
           have HSX := Aside0.mk (show d.size = d.size from rfl)
           have hr_d : a < mid := by omega
           have hr_e : mid < b := by omega
           have HRO := Aside0.mk (rot_none (d := d) (show s = m ∨ m = t by omega) k2 k3)
           have HRN := Aside0.mk (HCD.out.runs HRO.out)
           have S2 := S1
           go_wp2
           go_end0
           have HM1 := Aside0.mk (show Mrg ltC a mid d d from Mrg.refl (sorted_sub HRN.out.1 (Nat.le_refl _) (by omega)))
           have HM2 := Aside0.mk (show Mrg ltC mid b d d from Mrg.refl (fun i j g1 g2 g3 => by exact HRN.out.2.2.2.1 i j (by omega) g2 (by omega)))
           refine ⟨rfl, d, HCD.out.merged h3 HRO.out (e1 := d) ?_ ?_, S2.out⟩
           ·rw [hxm]; exact HM1.out
           ·rw [hxm]; exact HM2.out
          ·exfalso; omega
         ·by_cases cB : t < b
          ·exfalso; omega
          ·exfalso; omega
    ·have z1 : decide ((mid : Int) < (m : Int)) = false := decide_eq_false (by omega)
     have z2 : decide (mid < m) = false := decide_eq_false hmm
     have hs1 : a = s0 := by unfold sStart at hs0; rw [if_neg (by omega)] at hs0; omega
     have hr1 : m = r0 := by unfold sEnd at hr0; rw [if_neg (by omega)] at hr0; omega
     have HR1 := Aside0.mk hr1
     have HS1 := Aside0.mk hs1
     clear hs0 hr0 hmid hn hq hs hs1 hr1 z7
     go_enter Try.func102, Try.ntmps102
     go_wp2
     clear f1 f2 f2' f5 f3 f4 f4' f6 em en eq' z1 z2
     go_loopw [20, 21, 23, 149, 150, 151, 152, 153, 154, 155, 156, 157, 158, 159, 160, 161, 162, 163, 164, 165, 166, 167, 168, 169, 170, 171, 172, 173, 174] (fun v20 v21 _ _ _ _ _ _ _ _ _ _ _ _ _ _ _ _ _ _ _ _ _ _ _ _ _ _ _ wr => ∃ s r : Nat, v20 = .int .i64 s ∧ v21 = .int .i64 r ∧ Aside0 (Srch ltC d ((a + b) / 2 + m - 1) (sStart a m b) (sEnd a m b) s r) ∧ Aside0 (SWK e34 7 w0 blk off d wr)) (fun v20 v21 _ _ _ _ _ _ _ _ _ _ _ _ _ _ _ _ _ _ _ _ _ _ _ _ _ _ _ _ => (intOf v21).toNat - (intOf v20).toNat)
     case atStart => exact ⟨s0, r0, by rw [← HS1.out], by rw [← HR1.out], HST0, S0⟩
     case round =>
      clear S0 HST0
      obtain ⟨s, r, rfl, rfl, HST, S1⟩ := hrel
      have hxy := HST.out.hxy
      have hx1 := HST.out.hx
      have hy1 := HST.out.hy
      have hse : sEnd a m b ≤ m := by unfold sEnd; split <;> omega
      have hmid := HMID.out
      have hn := HN.out
      have hq := HQ.out
      by_cases hlt : s < r
      ·have d1 : decide ((s : Int) < (r : Int)) = true := decide_eq_true (by omega)
       have d2 : decide (s < r) = true := decide_eq_true hlt
       obtain ⟨c, hc⟩ : ∃ c, (s + r) / 2 = c := ⟨_, rfl⟩
       have ec : ((s : Int) + (r : Int)) / 2 = (c : Int) := by omega
       have gc1 : s ≤ c := by omega
       have gc2 : c < r := by omega
       obtain ⟨b1, b2, b3, b4⟩ := s_bounds h1 h2 (show sStart a m b ≤ c by omega) (show c < sEnd a m b by omega)
       obtain ⟨u, hu⟩ : ∃ u, (a + b) / 2 + m - 1 - c = u := ⟨_, rfl⟩
       have eu : (q : Int) - (c : Int) = (u : Int) := by omega
       have gu : u < d.size := by omega
       have gc : c < d.size := by omega
       have hxb : s < 2305843009213693952 := by omega
       have hyb : r < 2305843009213693952 := by omega
       have HU := Aside0.mk hu
       have GE := Aside0.mk eu
       clear hc hu b1 b2 b3 b4 hmid hn hq hx1 hy1 eu
       cases hl : ltC d[u]! d[c]! with
       | false =>
        have HL := Aside0.mk hl
        clear hl
        go_upto_region 35 with (fail)
        clear ec
        have eu := GE.out
        have eu2 : IntKind.i64.wrap ((q : Int) - (c : Int)) = (u : Int) := by rw [eu, IntKind.wrap_i64]; omega
        have hn_39321 : ((u : Int)).toNat = u := by omega
        have hp_39321 : (0 : Int) ≤ (u : Int) := by omega
        have hq_39321 : (u : Int) < (d.size : Int) := by omega
        have hw_39321 : IntKind.i64.wrap ((u : Int)) = (u : Int) := by rw [IntKind.wrap_i64]; omega
        have hn_75478 : ((c : Int)).toNat = c := by omega
        have hp_75478 : (0 : Int) ≤ (c : Int) := by omega
        have hq_75478 : (c : Int) < (d.size : Int) := by omega
        have hw_75478 : IntKind.i64.wrap ((c : Int)) = (c : Int) := by rw [IntKind.wrap_i64]; omega
        obtain ⟨x, hx⟩ : ∃ x, d[u]! = x := ⟨_, rfl⟩
        obtain ⟨y, hy⟩ : ∃ y, d[c]! = y := ⟨_, rfl⟩
        have cx := (sw_at S1.out HR.out (by have := HS.out; omega) (show u < d.size by omega)).1
        have cy := (sw_at S1.out HR.out (by have := HS.out; omega) (show c < d.size by omega)).1
        rw [hx] at cx
        rw [hy] at cy
        have hd : decide (cmpC x y < 0) = false := by rw [← hx, ← hy]; exact HL.out
        have hcall := fun n os => comp_grown S1.out HCB.out x y n os
        obtain ⟨x0, x1, x2, x3, x4, x5, x6⟩ := cx
        obtain ⟨y0, y1, y2, y3, y4, y5, y6⟩ := cy
        have x0 := cell_all x0
        have x1 := cell_all x1
        have x2 := cell_all x2
        have x3 := cell_all x3
        have x4 := cell_all x4
        have x5 := cell_all x5
        have x6 := cell_all x6
        have y0 := cell_all y0
        have y1 := cell_all y1
        have y2 := cell_all y2
        have y3 := cell_all y3
        have y4 := cell_all y4
        have y5 := cell_all y5
        have y6 := cell_all y6
        clear hx hy
        have mixed : Try.prog.follows .mixedOrders = true := by kernel_rfl
        go_wp2_with fail
        go_quiet_grown ((go_at_call 83; refine Calls.grown_of (hcall _ _)))
        have S2 := Aside0.mk (S1.out.grown nq osq)
        clear x0 x1 x2 x3 x4 x5 x6 y0 y1 y2 y3 y4 y5 y6 hcall S1 mixed
        generalize grow (wr.drewN nq) osq = w2 at S2 ⊢
        clear nq osq
        clear eu eu2
        go_wp2
        go_roundw
        case rel => exact ⟨c + 1, r, by go_num, rfl, ⟨HST.out.less swo_C LO.out HI.out h1 h2 gc1 gc2 (by rw [HU.out]; exact HL.out)⟩, S2⟩
        case measure => simp [intOf]; try omega
       | true =>
        have HL := Aside0.mk hl
        clear hl
        go_upto_region 35 with (fail)
        clear ec
        have eu := GE.out
        have eu2 : IntKind.i64.wrap ((q : Int) - (c : Int)) = (u : Int) := by rw [eu, IntKind.wrap_i64]; omega
        have hn_39321 : ((u : Int)).toNat = u := by omega
        have hp_39321 : (0 : Int) ≤ (u : Int) := by omega
        have hq_39321 : (u : Int) < (d.size : Int) := by omega
        have hw_39321 : IntKind.i64.wrap ((u : Int)) = (u : Int) := by rw [IntKind.wrap_i64]; omega
        have hn_75478 : ((c : Int)).toNat = c := by omega
        have hp_75478 : (0 : Int) ≤ (c : Int) := by omega
        have hq_75478 : (c : Int) < (d.size : Int) := by omega
        have hw_75478 : IntKind.i64.wrap ((c : Int)) = (c : Int) := by rw [IntKind.wrap_i64]; omega
        obtain ⟨x, hx⟩ : ∃ x, d[u]! = x := ⟨_, rfl⟩
        obtain ⟨y, hy⟩ : ∃ y, d[c]! = y := ⟨_, rfl⟩
        have cx := (sw_at S1.out HR.out (by have := HS.out; omega) (show u < d.size by omega)).1
        have cy := (sw_at S1.out HR.out (by have := HS.out; omega) (show c < d.size by omega)).1
        rw [hx] at cx
        rw [hy] at cy
        have hd : decide (cmpC x y < 0) = true := by rw [← hx, ← hy]; exact HL.out
        have hcall := fun n os => comp_grown S1.out HCB.out x y n os
        obtain ⟨x0, x1, x2, x3, x4, x5, x6⟩ := cx
        obtain ⟨y0, y1, y2, y3, y4, y5, y6⟩ := cy
        have x0 := cell_all x0
        have x1 := cell_all x1
        have x2 := cell_all x2
        have x3 := cell_all x3
        have x4 := cell_all x4
        have x5 := cell_all x5
        have x6 := cell_all x6
        have y0 := cell_all y0
        have y1 := cell_all y1
        have y2 := cell_all y2
        have y3 := cell_all y3
        have y4 := cell_all y4
        have y5 := cell_all y5
        have y6 := cell_all y6
        clear hx hy
        have mixed : Try.prog.follows .mixedOrders = true := by kernel_rfl
        go_wp2_with fail
        go_quiet_grown ((go_at_call 83; refine Calls.grown_of (hcall _ _)))
        have S2 := Aside0.mk (S1.out.grown nq osq)
        clear x0 x1 x2 x3 x4 x5 x6 y0 y1 y2 y3 y4 y5 y6 hcall S1 mixed
        generalize grow (wr.drewN nq) osq = w2 at S2 ⊢
        clear nq osq
        clear eu eu2
        go_wp2
        go_roundw
        case rel => exact ⟨s, c, rfl, rfl, ⟨HST.out.more swo_C LO.out HI.out h1 h2 gc1 gc2 (by rw [HU.out]; exact HL.out)⟩, S2⟩
        case measure => simp [intOf]; try omega
      ·obtain rfl : s = r := by omega
       have d1 : decide ((s : Int) < (s : Int)) = false := decide_eq_false (by omega)
       have d2 : decide (s < s) = false := decide_eq_false (by omega)
       have HCT := Aside0.mk (HST.out.cut swo_C LO.out HI.out h1 h2)
       clear HST
       obtain ⟨t, ht⟩ : ∃ t, n - s = t := ⟨_, rfl⟩
       have et : (n : Int) - (s : Int) = (t : Int) := by omega
       obtain ⟨hcut, hxm⟩ := HCT.out
       rw [show (a + b) / 2 + m - s = t by omega] at hcut hxm
       rw [hmid] at hxm
       have k1 := hcut.has
       have k2 := hcut.hsm
       have k3 := hcut.hmn
       have k4 := hcut.hnb
       have HCD := Aside0.mk hcut
       clear hcut HCT
       by_cases cP : s < m
       ·by_cases cQ : m < t
        ·by_cases cA : a < s
         ·by_cases cB : t < b
          ·have zp1 : decide ((s : Int) < (m : Int)) = true := decide_eq_true (by omega)
           have zp2 : decide (s < m) = true := decide_eq_true (by omega)
           have zq1 : decide ((m : Int) < (t : Int)) = true := decide_eq_true (by omega)
           have zq2 : decide (m < t) = true := decide_eq_true (by omega)
           have za1 : decide ((a : Int) < (s : Int)) = true := decide_eq_true (by omega)
           have za2 : decide (a < s) = true := decide_eq_true (by omega)
           have zx1 : decide ((s : Int) < (mid : Int)) = true := decide_eq_true (by omega)
           have zx2 : decide (s < mid) = true := decide_eq_true (by omega)
           have zt1 : decide ((mid : Int) < (t : Int)) = true := decide_eq_true (by omega)
           have zt2 : decide (mid < t) = true := decide_eq_true (by omega)
           have zb1 : decide ((t : Int) < (b : Int)) = true := decide_eq_true (by omega)
           have zb2 : decide (t < b) = true := decide_eq_true (by omega)
           have HSX := Aside0.mk (show d.size = d.size from rfl)
           have hr_d : a < mid := by omega
           have hr_e : mid < b := by omega
           have HRT := Aside0.mk (rotate_calls blk off cap s m t d0 d w0 wr (.func (.func 83) #[] #[.pointer (some ⟨pc, 0, none⟩), .pointer (some ⟨pk, 0, none⟩)]) HR.out HS.out S1.out (by omega) (by omega) (by omega) hsz)
           go_wp2_with (first | (go_at_call 103; refine HRT.out.mono ?_; rintro e_ w2 ⟨rfl, e, hr_, hs_⟩; have S2 := Aside0.mk hs_; have HRO := Aside0.mk hr_; have HRN := Aside0.mk (HCD.out.runs hr_); clear hs_ hr_) | (go_at_call 102; (with_reducible refine (IH.out a s mid e _ (by omega) (by have := HRO.out.size; omega) S2.out (by omega) (by omega) (by have := HRO.out.size; omega) HRN.out.1 (by have h_ := HRN.out.2.1; rw [hxm] at h_; exact h_)).mono ?_); rintro e_ w4 ⟨rfl, e1, hm_, hs_⟩; have S4 := Aside0.mk hs_; have HM1 := Aside0.mk hm_; clear hs_ hm_) | (go_at_call 102; have z_ := (show e1.size = e.size from HM1.out.perm.1); have q1_ : SortedIn ltC mid t e1 := (fun i j g1 g2 g3 => by rw [HM1.out.perm.2.1 i (.inr (by omega)), HM1.out.perm.2.1 j (.inr (by omega))]; have h_ := HRN.out.2.2.1; rw [hxm] at h_; exact h_ i j g1 g2 g3); have q2_ : SortedIn ltC t b e1 := (fun i j g1 g2 g3 => by rw [HM1.out.perm.2.1 i (.inr (by omega)), HM1.out.perm.2.1 j (.inr (by omega))]; exact HRN.out.2.2.2.1 i j g1 g2 g3); (with_reducible refine (IH.out mid t b e1 _ (by omega) (by have := HRO.out.size; omega) S4.out (by omega) (by omega) (by have := HRO.out.size; omega) q1_ q2_).mono ?_); rintro e_ w5 ⟨rfl, e2, hm_, hs_⟩; have S5 := Aside0.mk hs_; have HM2 := Aside0.mk hm_; clear hs_ hm_ q1_ q2_))
           go_end0
           refine ⟨rfl, e2, HCD.out.merged h3 HRO.out (e1 := e1) ?_ ?_, S5.out⟩
           ·rw [hxm]; exact HM1.out
           ·rw [hxm]; exact HM2.out
          ·have zp1 : decide ((s : Int) < (m : Int)) = true := decide_eq_true (by omega)
           have zp2 : decide (s < m) = true := decide_eq_true (by omega)
           have zq1 : decide ((m : Int) < (t : Int)) = true := decide_eq_true (by omega)
           have zq2 : decide (m < t) = true := decide_eq_true (by omega)
           have za1 : decide ((a : Int) < (s : Int)) = true := decide_eq_true (by omega)
           have za2 : decide (a < s) = true := decide_eq_true (by omega)
           have zx1 : decide ((s : Int) < (mid : Int)) = true := decide_eq_true (by omega)
           have zx2 : decide (s < mid) = true := decide_eq_true (by omega)
           have zt1 : decide ((mid : Int) < (t : Int)) = true := decide_eq_true (by omega)
           have zt2 : decide (mid < t) = true := decide_eq_true (by omega)
           have zb1 : decide ((t : Int) < (b : Int)) = false := decide_eq_false (by omega)
           have zb2 : decide (t < b) = false := decide_eq_false (by omega)
           have HSX := Aside0.mk (show d.size = d.size from rfl)
           have hr_d : a < mid := by omega
           have hr_e : mid < b := by omega
           have HRT := Aside0.mk (rotate_calls blk off cap s m t d0 d w0 wr (.func (.func 83) #[] #[.pointer (some ⟨pc, 0, none⟩), .pointer (some ⟨pk, 0, none⟩)]) HR.out HS.out S1.out (by omega) (by omega) (by omega) hsz)
           go_wp2_with (first | (go_at_call 103; refine HRT.out.mono ?_; rintro e_ w2 ⟨rfl, e, hr_, hs_⟩; have S2 := Aside0.mk hs_; have HRO := Aside0.mk hr_; have HRN := Aside0.mk (HCD.out.runs hr_); clear hs_ hr_) | (go_at_call 102; (with_reducible refine (IH.out a s mid e _ (by omega) (by have := HRO.out.size; omega) S2.out (by omega) (by omega) (by have := HRO.out.size; omega) HRN.out.1 (by have h_ := HRN.out.2.1; rw [hxm] at h_; exact h_)).mono ?_); rintro e_ w4 ⟨rfl, e1, hm_, hs_⟩; have S4 := Aside0.mk hs_; have HM1 := Aside0.mk hm_; clear hs_ hm_))
           go_end0
           have HM2 := Aside0.mk (show Mrg ltC mid b e1 e1 from Mrg.refl (fun i j g1 g2 g3 => by rw [HM1.out.perm.2.1 i (.inr (by omega)), HM1.out.perm.2.1 j (.inr (by omega))]; exact HRN.out.2.2.1 i j (by omega) g2 (by omega)))
           refine ⟨rfl, e1, HCD.out.merged h3 HRO.out (e1 := e1) ?_ ?_, S4.out⟩
           ·rw [hxm]; exact HM1.out
           ·rw [hxm]; exact HM2.out
         ·by_cases cB : t < b
          ·have zp1 : decide ((s : Int) < (m : Int)) = true := decide_eq_true (by omega)
           have zp2 : decide (s < m) = true := decide_eq_true (by omega)
           have zq1 : decide ((m : Int) < (t : Int)) = true := decide_eq_true (by omega)
           have zq2 : decide (m < t) = true := decide_eq_true (by omega)
           have za1 : decide ((a : Int) < (s : Int)) = false := decide_eq_false (by omega)
           have za2 : decide (a < s) = false := decide_eq_false (by omega)
           have zx1 : decide ((s : Int) < (mid : Int)) = true := decide_eq_true (by omega)
           have zx2 : decide (s < mid) = true := decide_eq_true (by omega)
           have zt1 : decide ((mid : Int) < (t : Int)) = true := decide_eq_true (by omega)
           have zt2 : decide (mid < t) = true := decide_eq_true (by omega)
           have zb1 : decide ((t : Int) < (b : Int)) = true := decide_eq_true (by omega)
           have zb2 : decide (t < b) = true := decide_eq_true (by omega)
           have HSX := Aside0.mk (show d.size = d.size from rfl)
           have hr_d : a < mid := by omega
           have hr_e : mid < b := by omega
           have HRT := Aside0.mk (rotate_calls blk off cap s m t d0 d w0 wr (.func (.func 83) #[] #[.pointer (some ⟨pc, 0, none⟩), .pointer (some ⟨pk, 0, none⟩)]) HR.out HS.out S1.out (by omega) (by omega) (by omega) hsz)
           go_wp2_with (first | (go_at_call 103; refine HRT.out.mono ?_; rintro e_ w2 ⟨rfl, e, hr_, hs_⟩; have S2 := Aside0.mk hs_; have HRO := Aside0.mk hr_; have HRN := Aside0.mk (HCD.out.runs hr_); clear hs_ hr_) | (go_at_call 102; have q1_ : SortedIn ltC mid t e := (fun i j g1 g2 g3 => by have h_ := HRN.out.2.2.1; rw [hxm] at h_; exact h_ i j g1 g2 g3); have q2_ : SortedIn ltC t b e := (fun i j g1 g2 g3 => by exact HRN.out.2.2.2.1 i j g1 g2 g3); (with_reducible refine (IH.out mid t b e _ (by omega) (by have := HRO.out.size; omega) S2.out (by omega) (by omega) (by have := HRO.out.size; omega) q1_ q2_).mono ?_); rintro e_ w5 ⟨rfl, e2, hm_, hs_⟩; have S5 := Aside0.mk hs_; have HM2 := Aside0.mk hm_; clear hs_ hm_ q1_ q2_))
           go_end0
           have HM1 := Aside0.mk (show Mrg ltC a mid e e from Mrg.refl (sorted_sub (show SortedIn ltC s (s + (t - m)) e from HRN.out.2.1) (by omega) (by omega)))
           refine ⟨rfl, e2, HCD.out.merged h3 HRO.out (e1 := e) ?_ ?_, S5.out⟩
           ·rw [hxm]; exact HM1.out
           ·rw [hxm]; exact HM2.out
          ·have zp1 : decide ((s : Int) < (m : Int)) = true := decide_eq_true (by omega)
           have zp2 : decide (s < m) = true := decide_eq_true (by omega)
           have zq1 : decide ((m : Int) < (t : Int)) = true := decide_eq_true (by omega)
           have zq2 : decide (m < t) = true := decide_eq_true (by omega)
           have za1 : decide ((a : Int) < (s : Int)) = false := decide_eq_false (by omega)
           have za2 : decide (a < s) = false := decide_eq_false (by omega)
           have zx1 : decide ((s : Int) < (mid : Int)) = true := decide_eq_true (by omega)
           have zx2 : decide (s < mid) = true := decide_eq_true (by omega)
           have zt1 : decide ((mid : Int) < (t : Int)) = true := decide_eq_true (by omega)
           have zt2 : decide (mid < t) = true := decide_eq_true (by omega)
           have zb1 : decide ((t : Int) < (b : Int)) = false := decide_eq_false (by omega)
           have zb2 : decide (t < b) = false := decide_eq_false (by omega)
           have HSX := Aside0.mk (show d.size = d.size from rfl)
           have hr_d : a < mid := by omega
           have hr_e : mid < b := by omega
           have HRT := Aside0.mk (rotate_calls blk off cap s m t d0 d w0 wr (.func (.func 83) #[] #[.pointer (some ⟨pc, 0, none⟩), .pointer (some ⟨pk, 0, none⟩)]) HR.out HS.out S1.out (by omega) (by omega) (by omega) hsz)
           go_wp2_with (first | (go_at_call 103; refine HRT.out.mono ?_; rintro e_ w2 ⟨rfl, e, hr_, hs_⟩; have S2 := Aside0.mk hs_; have HRO := Aside0.mk hr_; have HRN := Aside0.mk (HCD.out.runs hr_); clear hs_ hr_))
           go_end0
           have HM1 := Aside0.mk (show Mrg ltC a mid e e from Mrg.refl (sorted_sub (show SortedIn ltC s (s + (t - m)) e from HRN.out.2.1) (by omega) (by omega)))
           have HM2 := Aside0.mk (show Mrg ltC mid b e e from Mrg.refl (fun i j g1 g2 g3 => by exact HRN.out.2.2.1 i j (by omega) g2 (by omega)))
           refine ⟨rfl, e, HCD.out.merged h3 HRO.out (e1 := e) ?_ ?_, S2.out⟩
           ·rw [hxm]; exact HM1.out
           ·rw [hxm]; exact HM2.out
        ·by_cases cA : a < s
         ·by_cases cB : t < b
          ·have zp1 : decide ((s : Int) < (m : Int)) = true := decide_eq_true (by omega)
           have zp2 : decide (s < m) = true := decide_eq_true (by omega)
           have zq1 : decide ((m : Int) < (t : Int)) = false := decide_eq_false (by omega)
           have zq2 : decide (m < t) = false := decide_eq_false (by omega)
           have za1 : decide ((a : Int) < (s : Int)) = true := decide_eq_true (by omega)
           have za2 : decide (a < s) = true := decide_eq_true (by omega)
           have zx1 : decide ((s : Int) < (mid : Int)) = false := decide_eq_false (by omega)
           have zx2 : decide (s < mid) = false := decide_eq_false (by omega)
           have zt1 : decide ((mid : Int) < (t : Int)) = true := decide_eq_true (by omega)
           have zt2 : decide (mid < t) = true := decide_eq_true (by omega)
           have zb1 : decide ((t : Int) < (b : Int)) = true := decide_eq_true (by omega)
           have zb2 : decide (t < b) = true := decide_eq_true (by omega)
           have HSX := Aside0.mk (show d.size = d.size from rfl)
           have hr_d : a < mid := by omega
           have hr_e : mid < b := by omega
           have HRO := Aside0.mk (rot_none (d := d) (show s = m ∨ m = t by omega) k2 k3)
           have HRN := Aside0.mk (HCD.out.runs HRO.out)
           have S2 := S1
           go_wp2_with (first | (go_at_call 102; have q1_ : SortedIn ltC mid t d := (fun i j g1 g2 g3 => by have h_ := HRN.out.2.2.1; rw [hxm] at h_; exact h_ i j g1 g2 g3); have q2_ : SortedIn ltC t b d := (fun i j g1 g2 g3 => by exact HRN.out.2.2.2.1 i j g1 g2 g3); (with_reducible refine (IH.out mid t b d _ (by omega) (by have := HRO.out.size; omega) S2.out (by omega) (by omega) (by have := HRO.out.size; omega) q1_ q2_).mono ?_); rintro e_ w5 ⟨rfl, e2, hm_, hs_⟩; have S5 := Aside0.mk hs_; have HM2 := Aside0.mk hm_; clear hs_ hm_ q1_ q2_))
           go_end0
           have HM1 := Aside0.mk (show Mrg ltC a mid d d from Mrg.refl (sorted_sub HRN.out.1 (Nat.le_refl _) (by omega)))
           refine ⟨rfl, e2, HCD.out.merged h3 HRO.out (e1 := d) ?_ ?_, S5.out⟩
           ·rw [hxm]; exact HM1.out
           ·rw [hxm]; exact HM2.out
          ·exfalso; omega
         ·by_cases cB : t < b
          ·have zp1 : decide ((s : Int) < (m : Int)) = true := decide_eq_true (by omega)
           have zp2 : decide (s < m) = true := decide_eq_true (by omega)
           have zq1 : decide ((m : Int) < (t : Int)) = false := decide_eq_false (by omega)
           have zq2 : decide (m < t) = false := decide_eq_false (by omega)
           have za1 : decide ((a : Int) < (s : Int)) = false := decide_eq_false (by omega)
           have za2 : decide (a < s) = false := decide_eq_false (by omega)
           have zx1 : decide ((s : Int) < (mid : Int)) = false := decide_eq_false (by omega)
           have zx2 : decide (s < mid) = false := decide_eq_false (by omega)
           have zt1 : decide ((mid : Int) < (t : Int)) = true := decide_eq_true (by omega)
           have zt2 : decide (mid < t) = true := decide_eq_true (by omega)
           have zb1 : decide ((t : Int) < (b : Int)) = true := decide_eq_true (by omega)
           have zb2 : decide (t < b) = true := decide_eq_true (by omega)
           have HSX := Aside0.mk (show d.size = d.size from rfl)
           have hr_d : a < mid := by omega
           have hr_e : mid < b := by omega
           have HRO := Aside0.mk (rot_none (d := d) (show s = m ∨ m = t by omega) k2 k3)
           have HRN := Aside0.mk (HCD.out.runs HRO.out)
           have S2 := S1
           go_wp2_with (first | (go_at_call 102; have q1_ : SortedIn ltC mid t d := (fun i j g1 g2 g3 => by have h_ := HRN.out.2.2.1; rw [hxm] at h_; exact h_ i j g1 g2 g3); have q2_ : SortedIn ltC t b d := (fun i j g1 g2 g3 => by exact HRN.out.2.2.2.1 i j g1 g2 g3); (with_reducible refine (IH.out mid t b d _ (by omega) (by have := HRO.out.size; omega) S2.out (by omega) (by omega) (by have := HRO.out.size; omega) q1_ q2_).mono ?_); rintro e_ w5 ⟨rfl, e2, hm_, hs_⟩; have S5 := Aside0.mk hs_; have HM2 := Aside0.mk hm_; clear hs_ hm_ q1_ q2_))
           go_end0
           have HM1 := Aside0.mk (show Mrg ltC a mid d d from Mrg.refl (sorted_sub (show SortedIn ltC s (s + (t - m)) d from HRN.out.2.1) (by omega) (by omega)))
           refine ⟨rfl, e2, HCD.out.merged h3 HRO.out (e1 := d) ?_ ?_, S5.out⟩
           ·rw [hxm]; exact HM1.out
           ·rw [hxm]; exact HM2.out
          ·exfalso; omega
       ·by_cases cQ : m < t
        ·by_cases cA : a < s
         ·by_cases cB : t < b
          ·have zp1 : decide ((s : Int) < (m : Int)) = false := decide_eq_false (by omega)
           have zp2 : decide (s < m) = false := decide_eq_false (by omega)
           have zq1 : decide ((m : Int) < (t : Int)) = true := decide_eq_true (by omega)
           have zq2 : decide (m < t) = true := decide_eq_true (by omega)
           have za1 : decide ((a : Int) < (s : Int)) = true := decide_eq_true (by omega)
           have za2 : decide (a < s) = true := decide_eq_true (by omega)
           have zx1 : decide ((s : Int) < (mid : Int)) = true := decide_eq_true (by omega)
           have zx2 : decide (s < mid) = true := decide_eq_true (by omega)
           have zt1 : decide ((mid : Int) < (t : Int)) = false := decide_eq_false (by omega)
           have zt2 : decide (mid < t) = false := decide_eq_false (by omega)
           have zb1 : decide ((t : Int) < (b : Int)) = true := decide_eq_true (by omega)
           have zb2 : decide (t < b) = true := decide_eq_true (by omega)
           have HSX := Aside0.mk (show d.size = d.size from rfl)
           have hr_d : a < mid := by omega
           have hr_e : mid < b := by omega
           have HRO := Aside0.mk (rot_none (d := d) (show s = m ∨ m = t by omega) k2 k3)
           have HRN := Aside0.mk (HCD.out.runs HRO.out)
           have S2 := S1
           go_wp2_with (first | (go_at_call 102; (with_reducible refine (IH.out a s mid d _ (by omega) (by have := HRO.out.size; omega) S2.out (by omega) (by omega) (by have := HRO.out.size; omega) HRN.out.1 (by have h_ := HRN.out.2.1; rw [hxm] at h_; exact h_)).mono ?_); rintro e_ w4 ⟨rfl, e1, hm_, hs_⟩; have S4 := Aside0.mk hs_; have HM1 := Aside0.mk hm_; clear hs_ hm_))
           go_end0
           have HM2 := Aside0.mk (show Mrg ltC mid b e1 e1 from Mrg.refl (fun i j g1 g2 g3 => by rw [HM1.out.perm.2.1 i (.inr (by omega)), HM1.out.perm.2.1 j (.inr (by omega))]; exact HRN.out.2.2.2.1 i j (by omega) g2 (by omega)))
           refine ⟨rfl, e1, HCD.out.merged h3 HRO.out (e1 := e1) ?_ ?_, S4.out⟩
           ·rw [hxm]; exact HM1.out
           ·rw [hxm]; exact HM2.out
          ·have zp1 : decide ((s : Int) < (m : Int)) = false := decide_eq_false (by omega)
           have zp2 : decide (s < m) = false := decide_eq_false (by omega)
           have zq1 : decide ((m : Int) < (t : Int)) = true := decide_eq_true (by omega)
           have zq2 : decide (m < t) = true := decide_eq_true (by omega)
           have za1 : decide ((a : Int) < (s : Int)) = true := decide_eq_true (by omega)
           have za2 : decide (a < s) = true := decide_eq_true (by omega)
           have zx1 : decide ((s : Int) < (mid : Int)) = true := decide_eq_true (by omega)
           have zx2 : decide (s < mid) = true := decide_eq_true (by omega)
           have zt1 : decide ((mid : Int) < (t : Int)) = false := decide_eq_false (by omega)
           have zt2 : decide (mid < t) = false := decide_eq_false (by omega)
           have zb1 : decide ((t : Int) < (b : Int)) = false := decide_eq_false (by omega)
           have zb2 : decide (t < b) = false := decide_eq_false (by omega)
           have HSX := Aside0.mk (show d.size = d.size from rfl)
           have hr_d : a < mid := by omega
           have hr_e : mid < b := by omega
           have HRO := Aside0.mk (rot_none (d := d) (show s = m ∨ m = t by omega) k2 k3)
           have HRN := Aside0.mk (HCD.out.runs HRO.out)
           have S2 := S1
           go_wp2_with (first | (go_at_call 102; (with_reducible refine (IH.out a s mid d _ (by omega) (by have := HRO.out.size; omega) S2.out (by omega) (by omega) (by have := HRO.out.size; omega) HRN.out.1 (by have h_ := HRN.out.2.1; rw [hxm] at h_; exact h_)).mono ?_); rintro e_ w4 ⟨rfl, e1, hm_, hs_⟩; have S4 := Aside0.mk hs_; have HM1 := Aside0.mk hm_; clear hs_ hm_))
           go_end0
           have HM2 := Aside0.mk (show Mrg ltC mid b e1 e1 from Mrg.refl (fun i j g1 g2 g3 => by rw [HM1.out.perm.2.1 i (.inr (by omega)), HM1.out.perm.2.1 j (.inr (by omega))]; exact HRN.out.2.2.2.1 i j (by omega) g2 (by omega)))
           refine ⟨rfl, e1, HCD.out.merged h3 HRO.out (e1 := e1) ?_ ?_, S4.out⟩
           ·rw [hxm]; exact HM1.out
           ·rw [hxm]; exact HM2.out
         ·by_cases cB : t < b
          ·exfalso; omega
          ·exfalso; omega
        ·by_cases cA : a < s
         ·by_cases cB : t < b
          ·have zp1 : decide ((s : Int) < (m : Int)) = false := decide_eq_false (by omega)
           have zp2 : decide (s < m) = false := decide_eq_false (by omega)
           have zq1 : decide ((m : Int) < (t : Int)) = false := decide_eq_false (by omega)
           have zq2 : decide (m < t) = false := decide_eq_false (by omega)
           have za1 : decide ((a : Int) < (s : Int)) = true := decide_eq_true (by omega)
           have za2 : decide (a < s) = true := decide_eq_true (by omega)
           have zx1 : decide ((s : Int) < (mid : Int)) = false := decide_eq_false (by omega)
           have zx2 : decide (s < mid) = false := decide_eq_false (by omega)
           have zt1 : decide ((mid : Int) < (t : Int)) = false := decide_eq_false (by omega)
           have zt2 : decide (mid < t) = false := decide_eq_false (by omega)
           have zb1 : decide ((t : Int) < (b : Int)) = true := decide_eq_true (by omega)
           have zb2 : decide (t < b) = true := decide_eq_true (by omega)
           have HSX := Aside0.mk (show d.size = d.size from rfl)
           have hr_d : a < mid := by omega
           have hr_e : mid < b := by omega
           have HRO := Aside0.mk (rot_none (d := d) (show s = m ∨ m = t by omega) k2 k3)
           have HRN := Aside0.mk (HCD.out.runs HRO.out)
           have S2 := S1
           go_wp2
           go_end0
           have HM1 := Aside0.mk (show Mrg ltC a mid d d from Mrg.refl (sorted_sub HRN.out.1 (Nat.le_refl _) (by omega)))
           have HM2 := Aside0.mk (show Mrg ltC mid b d d from Mrg.refl (fun i j g1 g2 g3 => by exact HRN.out.2.2.2.1 i j (by omega) g2 (by omega)))
           refine ⟨rfl, d, HCD.out.merged h3 HRO.out (e1 := d) ?_ ?_, S2.out⟩
           ·rw [hxm]; exact HM1.out
           ·rw [hxm]; exact HM2.out
          ·exfalso; omega
         ·by_cases cB : t < b
          ·exfalso; omega
          ·exfalso; omega
end Go.Proofs.Ytmflggbpiadkjaa.P

/- The contracts of slices.SortStableFunc at cells. -/
namespace Go.Proofs.Ytmflggbpiadkjaa.P
open Go.RowKit Go.Sort Go.Proofs.YtmflggbpiadkjaaW.PrintWords Go.Proofs.YtmflggbpiadkjaaW.PrintLast Go.Proofs.YtmflggbpiadkjaaW.PrintMore
set_option linter.unusedVariables false
set_option linter.unusedSimpArgs false
/-! ### Runs -/
section
variable {α : Type} [Inhabited α] {lt : α → α → Bool} {d e : Array α} {s t a n : Nat}
theorem mul_cases (s k t : Nat) (hs : 0 < s) : s * k + s ≤ s * t ∨ s * k = s * t ∨ s * t + s ≤ s * k := by
 rcases Nat.lt_trichotomy k t with h | h | h
 ·left
  have := Nat.mul_le_mul_left s (show k + 1 ≤ t from h)
  rwa [Nat.mul_add, Nat.mul_one] at this
 ·right; left; rw [h]
 ·right; right
  have := Nat.mul_le_mul_left s (show t + 1 ≤ k from h)
  rwa [Nat.mul_add, Nat.mul_one] at this
/-- The runs that end by a are ascending. -/
def Upto (lt : α → α → Bool) (s a : Nat) (d : Array α) : Prop := ∀ k, s * k + s ≤ a → SortedIn lt (s * k) (s * k + s) d
theorem upto_step (hs : 0 < s) (ha : a = s * t) (h : Upto lt s a d) {b : Nat} (hp : PermIn a b d e) (hr : SortedIn lt a (a + s) e) : Upto lt s (a + s) e := by
 intro k hk
 rcases mul_cases s k t hs with h1 | h1 | h1
 ·intro i j k1 k2 k3
  rw [hp.2.1 i (.inl (by omega)), hp.2.1 j (.inl (by omega))]
  exact h k (by omega) i j k1 k2 k3
 ·rw [h1, ← ha]
  exact hr
 ·omega
theorem blks_of (hs : 0 < s) (ha : a = s * t) (h : Upto lt s a d) (hn : n < a + s) (hr : SortedIn lt a n d) : Blks lt s n d := by
 intro k
 rcases mul_cases s k t hs with h1 | h1 | h1
 ·exact sorted_sub (h k (by omega)) (Nat.le_refl _) (Nat.min_le_left _ _)
 ·rw [h1, ← ha]
  exact sorted_sub hr (Nat.le_refl _) (Nat.min_le_right _ _)
 ·intro i j k1 k2 k3
  have := Nat.min_le_right (s * k + s) n
  omega
/-- The runs from a on, each ascending. -/
def Tail (lt : α → α → Bool) (s a n : Nat) (d : Array α) : Prop := ∀ k, a ≤ s * k → SortedIn lt (s * k) (min (s * k + s) n) d
theorem Tail.step (h : Tail lt s a n d) {b : Nat} (hab : a ≤ b) (hp : PermIn a b d e) : Tail lt s b n e := by
 intro k hk i j k1 k2 k3
 rw [hp.2.1 i (.inr (by omega)), hp.2.1 j (.inr (by omega))]
 exact h k (by omega) i j k1 k2 k3
theorem Tail.lo (h : Tail lt s a n d) (ha : a = 2 * s * t) {m : Nat} (hm : m ≤ a + s) (hn : m ≤ n) : SortedIn lt a m d := by
 have e1 : s * (2 * t) = a := by rw [ha, Nat.mul_comm 2 s, Nat.mul_assoc]
 have h1 := h (2 * t) (by omega)
 rw [e1] at h1
 exact sorted_sub h1 (Nat.le_refl _) (Nat.le_min.2 ⟨hm, hn⟩)
theorem Tail.hi (h : Tail lt s a n d) (ha : a = 2 * s * t) {m : Nat} (hm : m ≤ a + s + s) (hn : m ≤ n) : SortedIn lt (a + s) m d := by
 have e1 : s * (2 * t + 1) = a + s := by rw [ha, Nat.mul_add, Nat.mul_one, Nat.mul_comm 2 s, Nat.mul_assoc]
 have h1 := h (2 * t + 1) (by omega)
 rw [e1] at h1
 exact sorted_sub h1 (Nat.le_refl _) (Nat.le_min.2 ⟨hm, hn⟩)
end
set_option maxHeartbeats 8000000 in
set_option maxRecDepth 1000000 in
theorem stable_calls (blk off cap pc pk : Nat) (d : Array S34) (w : World) (R : RowK e34 7 w blk off d) (C : CmpB w blk pc pk) (hsz : d.size < 2305843009213693952) :
  Calls Try.prog 97 #[.slice (some ⟨blk, off, none⟩) d.size cap, .int .i64 d.size, .func (.func 83) #[] #[.pointer (some ⟨pc, 0, none⟩), .pointer (some ⟨pk, 0, none⟩)]] w fun e w' => e = .returned (.tuple #[]) ∧ ∃ e', Mrg ltC 0 d.size d e' ∧ SWK e34 7 w blk off e' w' := by
 have S0 := Aside0.mk (SWK.start R.hH)
 have HR := Aside0.mk R
 have HCB := Aside0.mk C
 clear R C
 go_enter Try.func97, Try.ntmps97
 go_wp2
 go_loopw [7, 8, 11, 12, 13, 14, 15, 16, 17, 18, 19, 20, 21, 22] (fun v7 v8 _ _ _ _ _ _ _ _ _ _ _ _ wr => ∃ (a t : Nat) (e : Array S34), a = 20 * t ∧ a ≤ d.size ∧ v7 = .int .i64 a ∧ v8 = .int .i64 (a + 20 : Nat) ∧ Aside0 (PermIn 0 d.size d e) ∧ Aside0 (Upto ltC 20 a e) ∧ Aside0 (SWK e34 7 w blk off e wr)) (fun v7 _ _ _ _ _ _ _ _ _ _ _ _ _ _ => d.size + 1 - (intOf v7).toNat)
 case atStart => exact ⟨0, 0, d, rfl, Nat.zero_le _, rfl, rfl, ⟨permIn_refl _ _ _⟩, ⟨fun k hk => by omega⟩, S0⟩
 case round =>
  clear S0
  obtain ⟨a, t, e, hat, hax, rfl, rfl, HP, HU, S1⟩ := hrel
  have HAT := Aside0.mk hat
  have HPS := Aside0.mk (show e.size = d.size from HP.out.1)
  obtain ⟨b, hb⟩ : ∃ b, a + 20 = b := ⟨_, rfl⟩
  rw [hb]
  clear hat
  by_cases hlt : b ≤ d.size
  ·have d1 : decide ((b : Int) ≤ (d.size : Int)) = true := decide_eq_true (by omega)
   have d2 : decide (b ≤ d.size) = true := decide_eq_true hlt
   have HIN := Aside0.mk (insertion_calls blk off cap a b pc pk d e w wr HR.out HCB.out HPS.out.symm S1.out (by omega) (by have := HPS.out; omega) (by have := HPS.out; omega))
   have HSO := Aside0.mk (insertionSort_holds swo_C e a b (by omega) (by have := HPS.out; omega))
   rw [HPS.out] at HIN
   have HB := Aside0.mk hb
   clear hb
   go_wp2_with (first | (go_at_call 101; refine HIN.out.mono ?_; rintro e_ w2 ⟨rfl, hs_⟩; have S2 := Aside0.mk hs_; clear hs_))
   go_roundw
   case rel =>
    have hb := HB.out
    refine ⟨b, t + 1, _, by have := HAT.out; omega, hlt, rfl, by go_num, ⟨permIn_trans _ _ _ _ _ HP.out (permIn_mono _ _ _ _ _ _ (Nat.zero_le _) hlt (by have := HPS.out; omega) HSO.out.1)⟩, ⟨?_⟩, S2⟩
    have hso := HSO.out
    rw [← hb] at hso ⊢
    exact upto_step (by decide) HAT.out HU.out hso.1 hso.2
   case measure => have := HB.out; simp [intOf]; omega
  ·have d1 : decide ((b : Int) ≤ (d.size : Int)) = false := decide_eq_false (by omega)
   have d2 : decide (b ≤ d.size) = false := decide_eq_false hlt
   have HIN := Aside0.mk (insertion_calls blk off cap a d.size pc pk d e w wr HR.out HCB.out HPS.out.symm S1.out hax (by have := HPS.out; omega) (by have := HPS.out; omega))
   have HSO := Aside0.mk (insertionSort_holds swo_C e a d.size hax (by have := HPS.out; omega))
   rw [HPS.out] at HIN
   have HB := Aside0.mk hb
   have HLT := Aside0.mk hlt
   clear hb hlt
   go_upto_region 7 with (first | (go_at_call 101; refine HIN.out.mono ?_; rintro e_ w2 ⟨rfl, hs_⟩; have S2 := Aside0.mk hs_; clear hs_))
   have HP2 := Aside0.mk (permIn_trans _ _ _ _ _ HP.out (permIn_mono _ _ _ _ _ _ (Nat.zero_le _) (Nat.le_refl _) (by have := HPS.out; omega) HSO.out.1))
   have HBL := Aside0.mk (show Blks ltC 20 d.size (Sort.insertionSort ltC e a d.size) from blks_of (by decide) HAT.out (fun k hk i j k1 k2 k3 => by
    rw [HSO.out.1.2.1 i (.inl (by omega)), HSO.out.1.2.1 j (.inl (by omega))]
    exact HU.out k hk i j k1 k2 k3) (by have := HB.out; have := HLT.out; omega) HSO.out.2)
   generalize Sort.insertionSort ltC e a d.size = e at S2 HP2 HBL
   clear HIN HSO S1 HP HU HPS HAT HB HLT d1 d2 hax
   go_loopw [6, 7, 8, 9, 28, 29, 30, 31, 32, 33, 34, 35, 36, 37, 38, 39, 40, 41, 42, 43, 44, 45, 46, 47, 48, 49, 50, 51, 52, 53, 54, 55, 56, 57, 58, 59, 60, 61, 62] (fun v6 _ _ _ _ _ _ _ _ _ _ _ _ _ _ _ _ _ _ _ _ _ _ _ _ _ _ _ _ _ _ _ _ _ _ _ _ _ _ wr => ∃ (s : Nat) (e : Array S34), 0 < s ∧ s ≤ 2 * d.size + 20 ∧ v6 = .int .i64 s ∧ Aside0 (PermIn 0 d.size d e) ∧ Aside0 (Blks ltC s d.size e) ∧ Aside0 (SWK e34 7 w blk off e wr)) (fun v6 _ _ _ _ _ _ _ _ _ _ _ _ _ _ _ _ _ _ _ _ _ _ _ _ _ _ _ _ _ _ _ _ _ _ _ _ _ _ _ => d.size - (intOf v6).toNat)
   case atStart => exact ⟨20, _, by decide, by omega, rfl, HP2, HBL, S2⟩
   case round =>
    clear HP2 HBL S2
    obtain ⟨s, e, hs0, hs1, rfl, HP, HBL, S1⟩ := hrel
    by_cases hlt : s < d.size
    ·have d1 : decide ((s : Int) < (d.size : Int)) = true := decide_eq_true (by omega)
     have d2 : decide (s < d.size) = true := decide_eq_true hlt
     obtain ⟨s2, hs2⟩ : ∃ s2, 2 * s = s2 := ⟨_, rfl⟩
     have es : (2 : Int) * (s : Int) = (s2 : Int) := by omega
     have es2 : (s : Int) * 2 = (s2 : Int) := by omega
     have es3 : IntKind.i64.wrap (2 * (s : Int)) = (s2 : Int) := by rw [es, IntKind.wrap_i64]; omega
     have es4 : IntKind.i64.wrap ((s : Int) * 2) = (s2 : Int) := by rw [es2, IntKind.wrap_i64]; omega
     have hs2b : s2 < 4611686018427387904 := by omega
     have hs20 : 0 < s2 := by omega
     have HS2 := Aside0.mk hs2
     have HTL := Aside0.mk (show Tail ltC s 0 d.size e from fun k _ => HBL.out k)
     clear hs2 HBL
     go_wp2
     go_loopw [7, 8, 33, 34, 35, 36, 37, 38, 39, 40, 41, 42, 43, 44, 45, 46, 47, 48] (fun v7 v8 _ _ _ _ _ _ _ _ _ _ _ _ _ _ _ _ wr => ∃ (a t : Nat) (e : Array S34), a = s2 * t ∧ a ≤ d.size ∧ v7 = .int .i64 a ∧ v8 = .int .i64 (a + s2 : Nat) ∧ Aside0 (PermIn 0 d.size d e) ∧ Aside0 (Upto ltC s2 a e) ∧ Aside0 (Tail ltC s a d.size e) ∧ Aside0 (SWK e34 7 w blk off e wr)) (fun v7 _ _ _ _ _ _ _ _ _ _ _ _ _ _ _ _ _ _ => d.size + 1 - (intOf v7).toNat)
     case atStart => exact ⟨0, 0, e, by rw [Nat.mul_zero], Nat.zero_le _, rfl, by go_num, HP, ⟨fun k hk => by omega⟩, HTL, S1⟩
     case round =>
      clear HP HTL S1
      obtain ⟨a, t, e, hat, hax, rfl, rfl, HP, HU, HT, S1⟩ := hrel
      have HAT := Aside0.mk hat
      have HAT2 := Aside0.mk (show a = 2 * s * t from by rw [HS2.out]; exact hat)
      have HPS := Aside0.mk (show e.size = d.size from HP.out.1)
      obtain ⟨b, hb⟩ : ∃ b, a + s2 = b := ⟨_, rfl⟩
      obtain ⟨m, hm⟩ : ∃ m, a + s = m := ⟨_, rfl⟩
      rw [hb]
      have em : (a : Int) + (s : Int) = (m : Int) := by omega
      have em2 : IntKind.i64.wrap ((a : Int) + (s : Int)) = (m : Int) := by rw [em, IntKind.wrap_i64]; omega
      clear hat
      by_cases hlt2 : b ≤ d.size
      ·have d3 : decide ((b : Int) ≤ (d.size : Int)) = true := decide_eq_true (by omega)
       have d4 : decide (b ≤ d.size) = true := decide_eq_true hlt2
       have HCL := Aside0.mk (symMerge_calls blk off cap pc pk d w HR.out HCB.out hsz (b - a + 1) a m b e wr (by omega) HPS.out.symm S1.out (by omega) (by have := HS2.out; omega) (by have := HPS.out; omega) (HT.out.lo HAT2.out (by omega) (by have := HS2.out; omega)) (by have h_ := HT.out.hi HAT2.out (m := b) (by have := HS2.out; omega) hlt2; rw [hm] at h_; exact h_))
       have HB := Aside0.mk hb
       clear hb hm
       go_wp2_with (first | (go_at_call 102; refine HCL.out.mono ?_; rintro e_ w2 ⟨rfl, e2, hm_, hs_⟩; have S2 := Aside0.mk hs_; have HM := Aside0.mk hm_; clear hs_ hm_))
       go_roundw
       case rel =>
        have hb := HB.out
        refine ⟨b, t + 1, e2, by rw [Nat.mul_add, Nat.mul_one]; have := HAT.out; omega, hlt2, rfl, by go_num, ⟨permIn_trans _ _ _ _ _ HP.out (permIn_mono _ _ _ _ _ _ (Nat.zero_le _) hlt2 (by have := HPS.out; omega) HM.out.perm)⟩, ⟨?_⟩, ⟨HT.out.step (by omega) HM.out.perm⟩, S2⟩
        have h1 := HM.out.perm
        have h2 := HM.out.sorted
        rw [← hb] at h1 h2 ⊢
        exact upto_step hs20 HAT.out HU.out h1 h2
       case measure => have := HB.out; simp [intOf]; omega
      ·have d3 : decide ((b : Int) ≤ (d.size : Int)) = false := decide_eq_false (by omega)
       have d4 : decide (b ≤ d.size) = false := decide_eq_false hlt2
       have HB := Aside0.mk hb
       by_cases hm2 : m < d.size
       ·have d5 : decide ((m : Int) < (d.size : Int)) = true := decide_eq_true (by omega)
        have d6 : decide (m < d.size) = true := decide_eq_true hm2
        have HCL := Aside0.mk (symMerge_calls blk off cap pc pk d w HR.out HCB.out hsz (d.size - a + 1) a m d.size e wr (by omega) HPS.out.symm S1.out (by omega) hm2 (by have := HPS.out; omega) (HT.out.lo HAT2.out (by omega) (by omega)) (by have h_ := HT.out.hi HAT2.out (m := d.size) (by have := HS2.out; omega) (Nat.le_refl _); rw [hm] at h_; exact h_))
        have HLT := Aside0.mk hlt2
        clear hb hm hlt2
        go_wp2_with (first | (go_at_call 102; refine HCL.out.mono ?_; rintro e_ w2 ⟨rfl, e2, hm_, hs_⟩; have S2 := Aside0.mk hs_; have HM := Aside0.mk hm_; clear hs_ hm_))
        go_roundw
        case rel => exact ⟨s2, e2, hs20, by have := HS2.out; omega, by go_num, ⟨permIn_trans _ _ _ _ _ HP.out (permIn_mono _ _ _ _ _ _ (Nat.zero_le _) (Nat.le_refl _) (by have := HPS.out; omega) HM.out.perm)⟩, ⟨blks_of hs20 HAT.out (fun k hk i j k1 k2 k3 => by
         rw [HM.out.perm.2.1 i (.inl (by omega)), HM.out.perm.2.1 j (.inl (by omega))]
         exact HU.out k hk i j k1 k2 k3) (by have := HB.out; have := HLT.out; omega) HM.out.sorted⟩, S2⟩
        case measure => have := HS2.out; simp [intOf]; omega
       ·have d5 : decide ((m : Int) < (d.size : Int)) = false := decide_eq_false (by omega)
        have d6 : decide (m < d.size) = false := decide_eq_false hm2
        have HLO := Aside0.mk (HT.out.lo HAT2.out (m := d.size) (by omega) (Nat.le_refl _))
        have HLT := Aside0.mk hlt2
        clear hb hm hlt2
        go_wp2
        go_roundw
        case rel => exact ⟨s2, e, hs20, by have := HS2.out; omega, by go_num, HP, ⟨blks_of hs20 HAT.out HU.out (by have := HB.out; have := HLT.out; omega) HLO.out⟩, S1⟩
        case measure => have := HS2.out; simp [intOf]; omega
    ·have d1 : decide ((s : Int) < (d.size : Int)) = false := decide_eq_false (by omega)
     have d2 : decide (s < d.size) = false := decide_eq_false hlt
     go_wp2
     go_end0
     exact ⟨rfl, e, ⟨HP.out, blks_all HBL.out (by omega)⟩, S1.out⟩
set_option maxHeartbeats 2000000 in
theorem sortStable_calls (blk off cap pc pk : Nat) (d : Array S34) (w : World) (R : RowK e34 7 w blk off d) (C : CmpB w blk pc pk) (hsz : d.size < 2305843009213693952) :
  Calls Try.prog 82 #[.slice (some ⟨blk, off, none⟩) d.size cap, .func (.func 83) #[] #[.pointer (some ⟨pc, 0, none⟩), .pointer (some ⟨pk, 0, none⟩)]] w fun e w' => e = .returned (.tuple #[]) ∧ ∃ e', Mrg ltC 0 d.size d e' ∧ SWK e34 7 w blk off e' w' := by
 have HC := Aside0.mk (stable_calls blk off cap pc pk d w R C hsz)
 clear R C
 go_enter Try.func82, Try.ntmps82
 go_wp2_with (first | (go_at_call 97; refine HC.out.mono ?_; rintro e_ w2 ⟨rfl, e2, hm_, hs_⟩; have S2 := Aside0.mk hs_; have HM := Aside0.mk hm_; clear hs_ hm_))
 go_end0
 exact ⟨rfl, e2, HM.out, S2.out⟩
end Go.Proofs.Ytmflggbpiadkjaa.P
