/- Texts of mine and of the print, joined: HandCur, HandCuj, Px29, Px30, Px31, Px32, Px35, Px36, Px37, Px38, Px39, SpecEn, Px1, Opn0, Opn, SpecW, SpecS, SpecEr, HandLed, SpecLg, HandNew, HandPost, HandPut. -/
import Derived.Test.YtppcjoaghlecmaaDoorFc
import Derived.Test.YtppcjoaghlecmaaDoorFa
import Derived.Deep.QuietTactic
import Derived.BigQuiet
import Derived.Deep.RegionLaw
import Derived.Test.YtppcjoaghlecmaaDoorFb
import Derived.Deep.Slices
import Derived.ChangeArms
import Derived.ChangeSame
import Derived.WideShapes
import Derived.Deep.RegionHeld3
import Derived.StillTailTactics
namespace Go.Proofs.YtppcjoaghlecmaaDoor.P
open Go.RowKit Go.Sort Go.Proofs.YtppcjoaghlecmaaDoorW.PrintWords Go.Proofs.YtppcjoaghlecmaaDoorW.PrintLast Go.Proofs.YtppcjoaghlecmaaDoorW.PrintMore Go.Maps Go.ChangeShapes Go.WideShapes Go.WideMaps
set_option linter.unusedVariables false
set_option linter.unusedSimpArgs false
def ltB (a b : ByteArray) : Bool := Op.bytesLess a.toList b.toList
def insS (s : ByteArray) : List ByteArray → List ByteArray
 | [] => [s]
 | o :: r => if ltB o s = true then o :: insS s r else if o = s then o :: r else s :: o :: r
def curK (l : List S109) : List ByteArray := l.foldl (fun acc x => insS x.f1 acc) []
theorem insS_at (s : ByteArray) : ∀ (out : List ByteArray) (k : Nat), k ≤ out.length → (∀ j (h : j < out.length), j < k → ltB out[j] s = true) →
  (k = out.length → insS s out = out ++ [s]) ∧ ∀ (h : k < out.length), ltB out[k] s = false → insS s out = if out[k] = s then out else out.take k ++ [s] ++ out.drop k
 | [], k, hk, _ => ⟨fun _ => rfl, fun h => absurd h (by simp)⟩
 | o :: r, 0, hk, _ => by
  refine ⟨fun h => by simp at h, fun h hl => ?_⟩
  have hl : ltB o s = false := hl
  unfold insS
  rw [if_neg (by rw [hl]; decide)]
  rfl
 | o :: r, k + 1, hk, hb => by
  have h0 : ltB o s = true := hb 0 (by simp) (by omega)
  obtain ⟨h1, h2⟩ := insS_at s r k (by simpa using hk) (fun j h hj => hb (j + 1) (by simpa using h) (by omega))
  unfold insS
  rw [if_pos h0]
  refine ⟨fun h => ?_, fun h hl => ?_⟩
  ·rw [h1 (by simpa using h)]
   rfl
  ·have hk' : k < r.length := by simpa using h
   have e : (o :: r)[k + 1] = r[k] := rfl
   rw [e] at hl ⊢
   rw [h2 hk' hl]
   by_cases h3 : r[k] = s
   ·rw [if_pos h3, if_pos h3]
   rw [if_neg h3, if_neg h3]
   rfl
theorem insS_mem (s c : ByteArray) : ∀ (out : List ByteArray), c ∈ insS s out ↔ c = s ∨ c ∈ out
 | [] => by simp [insS]
 | o :: r => by
  unfold insS
  by_cases h0 : ltB o s = true
  ·rw [if_pos h0, List.mem_cons, insS_mem s c r, List.mem_cons]
   constructor
   ·rintro (h | h | h)
    ·exact .inr (.inl h)
    ·exact .inl h
    ·exact .inr (.inr h)
   ·rintro (h | h | h)
    ·exact .inr (.inl h)
    ·exact .inl h
    ·exact .inr (.inr h)
  rw [if_neg h0]
  by_cases h1 : o = s
  rotate_left
  ·rw [if_neg h1, List.mem_cons]
  rw [if_pos h1, List.mem_cons]
  constructor
  ·rintro (h | h)
   ·exact .inr (.inl h)
   ·exact .inr (.inr h)
  ·rintro (h | h | h)
   ·exact .inl (h.trans h1.symm)
   ·exact .inl h
   ·exact .inr h
theorem insS_len (s : ByteArray) : ∀ (out : List ByteArray), (insS s out).length ≤ out.length + 1
 | [] => by simp [insS]
 | o :: r => by
  unfold insS
  have := insS_len s r
  by_cases h0 : ltB o s = true
  ·rw [if_pos h0]; simp; omega
  rw [if_neg h0]
  by_cases h1 : o = s
  ·rw [if_pos h1]; simp
  rw [if_neg h1]; simp
theorem curK_step {l : List S109} {i : Nat} {x : S109} (h : l[i]? = some x) : curK (l.take (i + 1)) = insS x.f1 (curK (l.take i)) := by
 unfold curK
 rw [List.take_add_one, h, List.foldl_append]
 rfl
theorem curK_mem (c : ByteArray) (l : List S109) : c ∈ curK l ↔ ∃ x ∈ l, x.f1 = c := by
 have key : ∀ i, i ≤ l.length → (c ∈ curK (l.take i) ↔ ∃ x ∈ l.take i, x.f1 = c) := by
  intro i
  induction i with
  | zero => intro _; simp [curK]
  | succ i ih =>
   intro hi
   have hg : l[i]? = some l[i] := List.getElem?_eq_getElem (by omega)
   rw [curK_step hg, insS_mem, ih (by omega), List.take_add_one, hg]
   show _ ↔ ∃ x ∈ l.take i ++ [l[i]], x.f1 = c
   constructor
   ·rintro (h | ⟨x, hx, e⟩)
    ·exact ⟨l[i], List.mem_append.2 (.inr (List.mem_singleton.2 rfl)), h.symm⟩
    ·exact ⟨x, List.mem_append.2 (.inl hx), e⟩
   ·rintro ⟨x, hx, e⟩
    rcases List.mem_append.1 hx with hx | hx
    ·exact .inr ⟨x, hx, e⟩
    ·have : x = l[i] := by simpa using hx
     exact .inl (by rw [← e, this])
 have := key l.length (Nat.le_refl _)
 rwa [List.take_length] at this
theorem curK_len (l : List S109) : (curK l).length ≤ l.length := by
 have key : ∀ i, i ≤ l.length → (curK (l.take i)).length ≤ i := by
  intro i
  induction i with
  | zero => intro _; simp [curK]
  | succ i ih =>
   intro hi
   rw [curK_step (List.getElem?_eq_getElem (show i < l.length by omega))]
   have := insS_len l[i].f1 (curK (l.take i))
   have := ih (by omega)
   omega
 have := key l.length (Nat.le_refl _)
 rwa [List.take_length] at this
theorem lit0 (W : World) (base : Nat) (hb : base ≤ W.heap.size) : Kd.string.R 9 (W.alloc (.cells #[] 9)) base (fun k => W.heap.size ≤ k) (.slice (some ⟨W.heap.size, 0, none⟩) 0 0) [] :=
 ⟨fun k hk => by have e : W.heap.size = k := (by simpa [Value.ownBlock] using hk); omega, [], World.ownsRow_lit (base := base) (e := 9) (size := 1) W #[] 0 hb (by decide) rfl, Reps.none _ _⟩
theorem take_C {W : World} {A : Option Addr} {out : List ByteArray} {k : Nat} (h : Kd.C Kd.string W A out.length out) (hk : k ≤ out.length) : Kd.C Kd.string W A k (out.take k) := by
 have := Kd.C_take h hk
 rwa [show (out.take k).length = k by rw [List.length_take]; omega] at this
theorem drop_C {W : World} {ak : Addr} {out : List ByteArray} {k co : Nat} (h : Kd.C Kd.string W (some ak) out.length out) (hk : k ≤ out.length) (hc : out.length ≤ co) : Kd.C Kd.string W (if co = k then some ak else some (ak.add k)) (out.length - k) (out.drop k) := by
 have := Kd.C_drop (c := co) h hk hc
 rw [show (out.drop k).length = out.length - k from List.length_drop] at this
 rw [show k * Kd.string.sz = k from Nat.mul_one k] at this
 exact this
theorem drop_C0 {W : World} {ak : Addr} {out : List ByteArray} {co : Nat} (h : Kd.C Kd.string W (some ak) out.length out) (hc : out.length ≤ co) : Kd.C Kd.string W (if co = out.length then some ak else some (ak.add out.length)) 0 (out.drop out.length) := by
 have := drop_C h (Nat.le_refl _) hc
 rwa [Nat.sub_self] at this
theorem R_none {W : World} {base co : Nat} {ok : Nat → Prop} {out : List ByteArray} (h : Kd.string.R 9 W base ok (.slice none out.length co) out) : out = [] ∧ co = 0 := by
 have hr := Kd.R_reads' h
 have h0 : out.length = 0 := by
  rcases Nat.eq_zero_or_pos out.length with h1 | h1
  ·exact h1
  ·obtain ⟨ad, e, _⟩ := hr.2.2.2.2 h1
   cases e
 obtain ⟨_, inner, ⟨_, ho⟩, _⟩ := h
 refine ⟨List.length_eq_zero_iff.1 h0, ?_⟩
 rcases ho with ⟨hv, _⟩ | ⟨b, _, _, hv, _⟩
 ·simp only [Value.slice.injEq] at hv
  exact hv.2.2
 ·simp at hv
theorem nil_C (W : World) : Kd.C Kd.string W none 0 (([] : List ByteArray).drop 0) := ⟨rfl, by decide, fun h => absurd h (by decide)⟩
theorem row_lt {w w' : World} {base : Nat} {v : Value} {ks : List ByteArray} {ok : Nat → Prop} (h : Kd.string.R 9 w base ok v ks) (hk : ∀ q, q < w.heap.size → w'.heap[q]? = w.heap[q]?) : Kd.string.R 9 w' base ok v ks := Kd.R_step h (fun q _ hq => hk q hq)
theorem below_alloc' {base : Nat} {w W : World} {o : Obj} (h : Below base w W) (hb : base ≤ W.heap.size) : Below base w (W.alloc o) := h.alloc hb _
theorem lit1_C {W : World} {g : Nat} {s : ByteArray} (h : W.heap[g]? = some (.cells #[.string s] 9 (0, 0))) : Kd.C Kd.string W (some ⟨g, 0, none⟩) 1 [s] := by
 refine ⟨rfl, by decide, fun _ => ⟨_, rfl, fun j p hj => ?_⟩⟩
 have hj0 : j = 0 := by have := (List.getElem?_eq_some_iff.1 hj).1; simpa using this
 subst hj0
 obtain rfl : s = p := by simpa using hj
 refine ⟨[.string s], rfl, rfl, fun i u hu => ?_⟩
 have hi0 : i = 0 := by have := (List.getElem?_eq_some_iff.1 hu).1; simpa using this
 subst hi0
 obtain rfl : Value.string s = u := by simpa using hu
 exact (blk_cell h 0).trans rfl
structure Fct (w3 w : World) (base : Nat) (ak : Option Addr) (out : List ByteArray) (k : Nat) (s : ByteArray) (W : World) (gl : Nat) : Prop where
 row : Kd.string.R 9 W base (fun k => w3.heap.size ≤ k) (.slice (some ⟨gl, 0, none⟩) 0 0) []
 take : Kd.C Kd.string W ak k (out.take k)
 below : Below base w W
 le : w3.heap.size ≤ W.heap.size
 keep : ∀ q, q < w3.heap.size → W.heap[q]? = w3.heap[q]?
 new : w3.heap.size ≤ gl
 bs : base ≤ w3.heap.size
theorem Fct.after {w3 w W wB : World} {base : Nat} {ak : Option Addr} {out : List ByteArray} {k gl : Nat} {s : ByteArray} {v50 : Value} (h : Fct w3 w base ak out k s W gl) (hgB : W.grownBy wB (Value.slice (some ⟨gl, 0, none⟩) 0 0).ownBlock) (hat : v50.ownBlock = (Value.slice (some ⟨gl, 0, none⟩) 0 0).ownBlock ∨ ∃ b, v50.ownBlock = some b ∧ W.heap.size ≤ b) :
  w3.heap.size ≤ wB.heap.size ∧ base ≤ wB.heap.size ∧ ∀ {wC : World}, wB.grownBy wC v50.ownBlock → ∀ q, q < w3.heap.size → wC.heap[q]? = w3.heap[q]? := by
 have h0 := Nat.le_trans h.le hgB.size
 refine ⟨h0, Nat.le_trans h.bs h0, fun {wC} hgC q hq => ?_⟩
 have hn := h.new
 have hl := h.le
 have h2 := hgB.block q (by omega) (fun e => by
  have : gl = q := by simpa [Value.ownBlock] using e.symm
  omega)
 have h3 := hgC.block q (by omega) (fun e => by
  rcases hat with h | ⟨b, h, hb⟩
  ·have : gl = q := by simpa [Value.ownBlock] using (e.trans h).symm
   omega
  ·have : b = q := by simpa using (e.trans h).symm
   omega)
 exact h3.trans (h2.trans (h.keep q hq))
section
variable {w3 w : World} {base : Nat} {ak : Option Addr} {out : List ByteArray} {k : Nat} {s : ByteArray}
theorem fctG {W wB : World} {gl gs : Nat} {o : Obj} (hg : W.grownBy wB (Value.slice (some ⟨gl, 0, none⟩) 0 0).ownBlock) (h : W.heap[gs]? = some o) (hne : gl ≠ gs) : wB.heap[gs]? = some o :=
 (hg.block gs (Array.getElem?_eq_some_iff.1 h).1 (fun e => hne (by simpa [Value.ownBlock] using e.symm))).trans h
theorem fctX (hb : Below base w w3) (hs : base ≤ w3.heap.size) (hc : Kd.C Kd.string w3 ak out.length out) (hk : k ≤ out.length) : Fct w3 w base ak out k s (w3.alloc (.cells #[] 9)).drew w3.heap.size :=
 ⟨Kd.R_drew (lit0 w3 base hs), take_C (Kd.C_drew (Kd.C_alloc hc _)) hk, below_drew (below_alloc' hb hs), by show _ ≤ (w3.alloc _).heap.size; simp, fun q hq => Below.heap_alloc _ _ _ hq, Nat.le_refl _, hs⟩
theorem fctY (hb : Below base w w3) (hs : base ≤ w3.heap.size) (hc : Kd.C Kd.string w3 ak out.length out) (hk : k ≤ out.length) : Fct w3 w base ak out k s ((w3.alloc (.cells #[] 9)).alloc (.cells #[.string s] 9)).drew w3.heap.size := by
 have h1 : base ≤ (w3.alloc (.cells #[] 9)).heap.size := by simp; omega
 refine ⟨Kd.R_drew (Kd.R_below (lit0 w3 base hs) (below_alloc (Below.refl _ _) _)), take_C (Kd.C_drew (Kd.C_alloc (Kd.C_alloc hc _) _)) hk, below_drew (below_alloc' (below_alloc' hb hs) h1), by show _ ≤ ((w3.alloc _).alloc _).heap.size; simp; omega, fun q hq => ?_, Nat.le_refl _, hs⟩
 exact (Below.heap_alloc _ _ _ (by simp; omega)).trans (Below.heap_alloc _ _ _ hq)
theorem fctZ (hb : Below base w w3) (hs : base ≤ w3.heap.size) (hc : Kd.C Kd.string w3 ak out.length out) (hk : k ≤ out.length) : Fct w3 w base ak out k s ((w3.alloc (.cells #[.string s] 9)).alloc (.cells #[] 9)).drew (w3.heap.size + 1) := by
 have e1 : (w3.alloc (.cells #[.string s] 9)).heap.size = w3.heap.size + 1 := by simp
 have h1 : base ≤ (w3.alloc (.cells #[.string s] 9)).heap.size := by rw [e1]; omega
 have h2 := lit0 (w3.alloc (.cells #[.string s] 9)) base h1
 rw [e1] at h2
 refine ⟨Kd.R_drew (Kd.R_mono h2 (fun q hq => by omega)), take_C (Kd.C_drew (Kd.C_alloc (Kd.C_alloc hc _) _)) hk, below_drew (below_alloc' (below_alloc' hb hs) h1), by show _ ≤ ((w3.alloc _).alloc _).heap.size; simp; omega, fun q hq => ?_, by omega, hs⟩
 exact (Below.heap_alloc _ _ _ (by simp; omega)).trans (Below.heap_alloc _ _ _ hq)
theorem fctSY (hb : Below base w w3) (hs : base ≤ w3.heap.size) (hc : Kd.C Kd.string w3 ak out.length out) (hk : k ≤ out.length) (s : ByteArray) : ((w3.alloc (.cells #[] 9)).alloc (.cells #[.string s] 9)).drew.heap[w3.heap.size + 1]? = some (.cells #[.string s] 9 (0, 0)) ∧ w3.heap.size + 1 < ((w3.alloc (.cells #[] 9)).alloc (.cells #[.string s] 9)).drew.heap.size := by
 have h := blk_new (w3.alloc (.cells #[] 9)) (.cells #[.string s] 9)
 rw [show (w3.alloc (.cells #[] 9)).heap.size = w3.heap.size + 1 by simp] at h
 exact ⟨h, (Array.getElem?_eq_some_iff.1 h).1⟩
theorem fctSZ (hb : Below base w w3) (hs : base ≤ w3.heap.size) (hc : Kd.C Kd.string w3 ak out.length out) (hk : k ≤ out.length) (s : ByteArray) : ((w3.alloc (.cells #[.string s] 9)).alloc (.cells #[] 9)).drew.heap[w3.heap.size]? = some (.cells #[.string s] 9 (0, 0)) ∧ w3.heap.size < ((w3.alloc (.cells #[.string s] 9)).alloc (.cells #[] 9)).drew.heap.size := by
 have h : ((w3.alloc (.cells #[.string s] 9)).alloc (.cells #[] 9)).heap[w3.heap.size]? = some (.cells #[.string s] 9 (0, 0)) := (Below.heap_alloc _ _ _ (by simp)).trans (blk_new w3 _)
 exact ⟨h, (Array.getElem?_eq_some_iff.1 h).1⟩
end
set_option maxHeartbeats 8000000 in
set_option maxRecDepth 100000 in
theorem currencies_calls (A : Option Addr) (c : Nat) (l : List S109) (w : World) (h : Kd.C k109 w A l.length l) (hc : l.length ≤ c) (hl : l.length ≤ 1000000) :
  Calls Tryd.prog 143 #[.slice A l.length c] w fun e w' => ∃ v, e = .returned v ∧ Kd.string.R 9 w' w.heap.size (fun _ => True) v (curK l) ∧ Below w.heap.size w w' := by
 have HC := Aside0.mk h
 clear h
 obtain ⟨base, hbase⟩ : ∃ base, w.heap.size = base := ⟨_, rfl⟩
 have HBS := Aside0.mk hbase
 rw [hbase]
 clear hbase
 go_enter Tryd.func143, Tryd.ntmps143
 go_wp2
 go_loopw [3, 4, 5, 6, 7, 8, 9, 10, 11, 12, 13, 14, 15, 16, 17, 18, 19, 20, 21, 22, 23, 24, 25, 26, 27, 28, 29, 30, 31, 32, 33, 34, 35, 36, 37, 38, 39, 40, 41, 42, 43, 44, 45, 46, 47, 48, 49, 50, 51, 52, 53, 54, 55, 56, 57, 58, 59, 60, 61] (fun v3 v4 _ _ _ _ _ _ _ _ _ _ _ _ _ _ _ _ _ _ _ _ _ _ _ _ _ _ _ _ _ _ _ _ _ _ _ _ _ _ _ _ _ _ _ _ _ _ _ _ _ _ _ _ _ _ _ _ _ wr => ∃ i : Nat, i ≤ l.length ∧ v4 = .int .i64 i ∧ Aside0 (Kd.string.R 9 wr base (fun _ => True) v3 (curK (l.take i))) ∧ Aside0 (Below base w wr) ∧ Aside0 (base ≤ wr.heap.size)) (fun _ v4 _ _ _ _ _ _ _ _ _ _ _ _ _ _ _ _ _ _ _ _ _ _ _ _ _ _ _ _ _ _ _ _ _ _ _ _ _ _ _ _ _ _ _ _ _ _ _ _ _ _ _ _ _ _ _ _ _ _ => l.length - (intOf v4).toNat)
 case atStart => exact ⟨0, Nat.zero_le _, rfl, ⟨Kd.R_nil _ _ _ _ _⟩, ⟨Below.refl _ _⟩, ⟨Nat.le_of_eq HBS.out.symm⟩⟩
 case round =>
  obtain ⟨i, hi, rfl, HO, HB, HS⟩ := hrel
  obtain ⟨out, hout⟩ : ∃ out, curK (l.take i) = out := ⟨_, rfl⟩
  rw [hout] at HO
  have HOUT := Aside0.mk hout
  have hol : out.length ≤ i := by rw [← hout]; exact Nat.le_trans (curK_len _) (by rw [List.length_take]; omega)
  clear hout
  obtain ⟨Ao, co, hk3⟩ := Kd.R_slice HO.out
  subst hk3
  rename World => wo
  by_cases hlt : i < l.length
  rotate_left
  ·obtain rfl : i = l.length := by omega
   have d1 : decide ((l.length : Int) < (l.length : Int)) = false := decide_eq_false (by omega)
   have ho := HO.out
   have hou := HOUT.out
   rw [List.take_length] at hou
   have HOU := Aside0.mk hou
   clear ho hou
   go_wp2
   go_ret
   exact ⟨_, rfl, by rw [HOU.out]; exact HO.out, HB.out⟩
  have d1 : decide ((i : Int) < (l.length : Int)) = true := decide_eq_true (by omega)
  have d2 : decide (i < l.length) = true := decide_eq_true hlt
  have p0 : (0 : Int) ≤ (i : Int) := by omega
  have p1 : (i : Int) < (l.length : Int) := by omega
  obtain ⟨ad, A6, c6, e, _, q1, _, _, _, _, _, _, _⟩ := at_T109 (Kd.C_below HC.out (by rw [HBS.out]; exact HB.out)) (i : Int) (by omega) (by omega)
  subst e
  rw [Int.toNat_natCast] at q1
  obtain ⟨x, hx⟩ : ∃ x, rd_T109 l (i : Int) = x := ⟨_, rfl⟩
  have hxi : l[i]? = some x := by rw [← hx]; simp [rd_T109, hlt]
  rw [hx] at q1
  have HXI := Aside0.mk hxi
  have hxq := hx
  clear hx hxi
  obtain ⟨s, hs⟩ : ∃ s, x.f1 = s := ⟨_, rfl⟩
  rw [hs] at q1
  have HQ1 := Aside0.mk (show ∀ W, Below base w W → W.cell? ⟨(ad.add (i * 7)).block, (ad.add (i * 7)).off + 1, none⟩ = some (.string s) from fun W hW => by
   obtain ⟨ad3, A7, c7, e, _, r1, _, _, _, _, _, _, _⟩ := at_T109 (Kd.C_below HC.out (by rw [HBS.out]; exact hW)) (i : Int) (by omega) (by omega)
   obtain rfl : ad = ad3 := Option.some.inj e
   rw [Int.toNat_natCast, hxq, hs] at r1
   exact r1)
  clear hxq
  have HSX := Aside0.mk hs
  clear hs
  go_wp2
  go_loopw [5, 12, 13, 14, 15, 16, 17, 18, 19, 20, 21, 22, 23, 24, 25, 26, 27, 28, 29] (fun v5 _ _ _ _ _ _ _ _ _ _ _ _ _ _ _ _ _ _ wr => ∃ k : Nat, k ≤ out.length ∧ v5 = .int .i64 k ∧ Aside0 (∃ n, wr = wo.drewN n) ∧ Aside0 (∀ j (h : j < out.length), j < k → ltB out[j] s = true)) (fun v5 _ _ _ _ _ _ _ _ _ _ _ _ _ _ _ _ _ _ _ => out.length - (intOf v5).toNat)
  case atStart => exact ⟨0, Nat.zero_le _, rfl, ⟨⟨0, rfl⟩⟩, ⟨fun j h hj => by omega⟩⟩
  case round =>
   obtain ⟨k, hk, rfl, HD, HLT⟩ := hrel
   obtain ⟨nd, hwr⟩ := HD.out
   subst hwr
   clear HD
   have q1d : (wo.drewN nd).cell? ⟨(ad.add (i * 7)).block, (ad.add (i * 7)).off + 1, none⟩ = some (.string s) := q1
   have HOD := Aside0.mk (show Kd.string.R 9 (wo.drewN nd) base (fun _ => True) (.slice Ao out.length co) out from Kd.R_step HO.out (fun _ _ _ => rfl))
   have HB3 := Aside0.mk (show Below base w (wo.drewN nd) from pw_below_drewN HB.out nd)
   have HS3 := Aside0.mk (show base ≤ (wo.drewN nd).heap.size from HS.out)
   by_cases hkl : k < out.length
   rotate_left
   ·obtain rfl : k = out.length := by omega
    have d4 : decide ((out.length : Int) < (out.length : Int)) = false := decide_eq_false (by omega)
    cases Ao with
    | some ak =>
     go_wp2
     go_quiet (fail)
     go_wp2
     go_quiet (fail)
     go_upto_region 9 with (fail)
     refine with_world (P := fun x => Code.wp _ _ _ _ x) _ ?_
     intro w3 hw3
     have HOD3 := Aside0.mk (show Kd.string.R 9 w3 base (fun _ => True) (.slice (some ak) out.length co) out from by rw [hw3]; exact Kd.R_step HO.out (fun _ _ _ => rfl))
     have HB3 := Aside0.mk (show Below base w w3 from by rw [hw3]; exact pw_below_drewN (pw_below_drewN (pw_below_drewN HB.out _) _) _)
     have HS3 := Aside0.mk (show base ≤ w3.heap.size from by rw [hw3]; exact HS.out)
     clear hw3 q1 q1d
     have HKC := Aside0.mk (show out.length ≤ co from (Kd.R_reads' HO.out).2.1)
     have hkc : (out.length : Int) ≤ (co : Int) := by have := HKC.out; omega
     have hkc2 : decide (out.length ≤ co) = true := decide_eq_true HKC.out
     have hlc : (out.length : Int) ≤ (co : Int) := by have := (Kd.R_reads' HO.out).2.1; omega
     have p9 : (0 : Int) ≤ (out.length : Int) := by omega
     have p8 : (out.length : Int) ≤ (out.length : Int) := by omega
     have q1 := HQ1.out _ HB3.out
     have hbq : (ad.add (i * 7)).block < w3.heap.size := World.block_lt_of_cell? w3 ⟨(ad.add (i * 7)).block, (ad.add (i * 7)).off + 1, none⟩ q1
     have HLC := Aside0.mk (Kd.R_reads' HO.out).2.1
     have HTL := Aside0.mk (show (out.take out.length).length = out.length by rw [List.length_take]; omega)
     have HC3 := Aside0.mk (Kd.R_reads' HOD3.out).2.2
     have HFX := Aside0.mk (show Fct w3 w base (some ak) out out.length s ((w3.alloc (.cells #[] 9)).drew) w3.heap.size from fctX HB3.out HS3.out HC3.out (Nat.le_refl out.length))
     have HFY := Aside0.mk (show Fct w3 w base (some ak) out out.length s (((w3.alloc (.cells #[] 9)).alloc (.cells #[.string s] 9)).drew) w3.heap.size from fctY HB3.out HS3.out HC3.out (Nat.le_refl out.length))
     have HFZ := Aside0.mk (show Fct w3 w base (some ak) out out.length s (((w3.alloc (.cells #[.string s] 9)).alloc (.cells #[] 9)).drew) (w3.heap.size + 1) from fctZ HB3.out HS3.out HC3.out (Nat.le_refl out.length))
     go_region_law (first | (refine Kd.R_append_rows_step Kd.string (w0 := w) (W := (w3.alloc (.cells #[] 9)).drew) (Rr := Kd.string.K ((w3.alloc (.cells #[] 9)).drew)) base (by rfl) (.tmp 46) (.tmp 49) 205 9 (.string ⟨#[]⟩) 16 rfl Tryd.underlying205 info9 rfl (by decide) (by omega) (.slice (some ⟨w3.heap.size, 0, none⟩) 0 0) [] (out.take out.length) (some ak) out.length co (fun k => w3.heap.size ≤ k) (fun _ => False) rfl rfl HFX.out.row HFX.out.take (fun x cs hx => hx) (fun _ hk => hk.elim) (fun q hq => Nat.le_trans HFX.out.le hq) HFX.out.below (Nat.le_trans HS3.out HFX.out.le) (by simp; omega) ?_; intro v50 wB ho hb hg_ hat_; obtain ⟨A50, c50, hv50⟩ := Kd.R_slice ho; rw [List.nil_append] at hv50 ho; rw [HTL.out] at hv50; subst hv50; have HOB := Aside0.mk ho; have HBB := Aside0.mk hb; have HKB := Aside0.mk (HFX.out.after hg_ hat_); have q1B := HQ1.out _ hb; clear ho hb hg_ hat_) | (refine Kd.R_append_rows_step Kd.string (w0 := w) (W := ((w3.alloc (.cells #[] 9)).alloc (.cells #[.string s] 9)).drew) (Rr := Kd.string.K (((w3.alloc (.cells #[] 9)).alloc (.cells #[.string s] 9)).drew)) base (by rfl) (.tmp 46) (.tmp 49) 205 9 (.string ⟨#[]⟩) 16 rfl Tryd.underlying205 info9 rfl (by decide) (by omega) (.slice (some ⟨w3.heap.size, 0, none⟩) 0 0) [] (out.take out.length) (some ak) out.length co (fun k => w3.heap.size ≤ k) (fun _ => False) rfl rfl HFY.out.row HFY.out.take (fun x cs hx => hx) (fun _ hk => hk.elim) (fun q hq => Nat.le_trans HFY.out.le hq) HFY.out.below (Nat.le_trans HS3.out HFY.out.le) (by simp; omega) ?_; intro v50 wB ho hb hg_ hat_; obtain ⟨A50, c50, hv50⟩ := Kd.R_slice ho; rw [List.nil_append] at hv50 ho; rw [HTL.out] at hv50; subst hv50; have HOB := Aside0.mk ho; have HBB := Aside0.mk hb; have HKB := Aside0.mk (HFY.out.after hg_ hat_); have q1B := HQ1.out _ hb; have HS1 := Aside0.mk (lit1_C (fctG hg_ (fctSY HB3.out HS3.out HC3.out (Nat.le_refl out.length) s).1 (by omega))); clear ho hb hg_ hat_) | (refine Kd.R_append_rows_step Kd.string (w0 := w) (W := ((w3.alloc (.cells #[.string s] 9)).alloc (.cells #[] 9)).drew) (Rr := Kd.string.K (((w3.alloc (.cells #[.string s] 9)).alloc (.cells #[] 9)).drew)) base (by rfl) (.tmp 46) (.tmp 49) 205 9 (.string ⟨#[]⟩) 16 rfl Tryd.underlying205 info9 rfl (by decide) (by omega) (.slice (some ⟨(w3.heap.size + 1), 0, none⟩) 0 0) [] (out.take out.length) (some ak) out.length co (fun k => w3.heap.size ≤ k) (fun _ => False) rfl rfl HFZ.out.row HFZ.out.take (fun x cs hx => hx) (fun _ hk => hk.elim) (fun q hq => Nat.le_trans HFZ.out.le hq) HFZ.out.below (Nat.le_trans HS3.out HFZ.out.le) (by simp; omega) ?_; intro v50 wB ho hb hg_ hat_; obtain ⟨A50, c50, hv50⟩ := Kd.R_slice ho; rw [List.nil_append] at hv50 ho; rw [HTL.out] at hv50; subst hv50; have HOB := Aside0.mk ho; have HBB := Aside0.mk hb; have HKB := Aside0.mk (HFZ.out.after hg_ hat_); have q1B := HQ1.out _ hb; have HS1 := Aside0.mk (lit1_C (fctG hg_ (fctSZ HB3.out HS3.out HC3.out (Nat.le_refl out.length) s).1 (by omega))); clear ho hb hg_ hat_) | (refine Kd.R_append_step Kd.string (w0 := w) (W := wB) base (by rfl) (.tmp 50) (.tmp 56) 205 9 (.string ⟨#[]⟩) 16 rfl Tryd.underlying205 info9 rfl (by decide) (by omega) (.slice A50 out.length c50) (out.take out.length) s [.string s] (fun k => w3.heap.size ≤ k) (fun _ => False) rfl rfl rfl (fun _ hk => hk.elim) (fun q hq => Nat.le_trans HKB.out.1 hq) HOB.out HBB.out HKB.out.2.1 (by rw [HTL.out]; omega) ?_; intro v57 wC ho hb hg_ hat_; obtain ⟨A57, c57, hv57⟩ := Kd.R_slice ho; rw [show (out.take out.length ++ [s]).length = out.length + 1 by rw [List.length_append, HTL.out]; rfl] at hv57; subst hv57; have HOC := Aside0.mk ho; have HBC := Aside0.mk hb; have HSC := Aside0.mk (Nat.le_trans HKB.out.2.1 hg_.size); have HSW := Aside0.mk (Nat.le_trans HKB.out.1 hg_.size); have HDC := Aside0.mk (drop_C0 (Kd.R_reads' (row_lt HOD3.out (HKB.out.2.2 hg_))).2.2 HLC.out); clear ho hb hg_ hat_) | (refine Kd.R_append_rows_step Kd.string (w0 := w) (W := wB) (Rr := Kd.string.K wB) base (by rfl) (.tmp 50) (.tmp 56) 205 9 (.string ⟨#[]⟩) 16 rfl Tryd.underlying205 info9 rfl (by decide) (by omega) (.slice A50 out.length c50) (out.take out.length) [s] (some ⟨w3.heap.size + 1, 0, none⟩) 1 1 (fun k => w3.heap.size ≤ k) (fun _ => False) rfl rfl HOB.out HS1.out (fun x cs hx => hx) (fun _ hk => hk.elim) (fun q hq => Nat.le_trans HKB.out.1 hq) HBB.out HKB.out.2.1 (by rw [HTL.out]; omega) ?_; intro v57 wC ho hb hg_ hat_; obtain ⟨A57, c57, hv57⟩ := Kd.R_slice ho; rw [show (out.take out.length ++ [s]).length = out.length + 1 by rw [List.length_append, HTL.out]; rfl] at hv57; subst hv57; have HOC := Aside0.mk ho; have HBC := Aside0.mk hb; have HSC := Aside0.mk (Nat.le_trans HKB.out.2.1 hg_.size); have HSW := Aside0.mk (Nat.le_trans HKB.out.1 hg_.size); have HDC := Aside0.mk (drop_C0 (Kd.R_reads' (row_lt HOD3.out (HKB.out.2.2 hg_))).2.2 HLC.out); clear ho hb hg_ hat_) | (refine Kd.R_append_rows_step Kd.string (w0 := w) (W := wB) (Rr := Kd.string.K wB) base (by rfl) (.tmp 50) (.tmp 56) 205 9 (.string ⟨#[]⟩) 16 rfl Tryd.underlying205 info9 rfl (by decide) (by omega) (.slice A50 out.length c50) (out.take out.length) [s] (some ⟨w3.heap.size, 0, none⟩) 1 1 (fun k => w3.heap.size ≤ k) (fun _ => False) rfl rfl HOB.out HS1.out (fun x cs hx => hx) (fun _ hk => hk.elim) (fun q hq => Nat.le_trans HKB.out.1 hq) HBB.out HKB.out.2.1 (by rw [HTL.out]; omega) ?_; intro v57 wC ho hb hg_ hat_; obtain ⟨A57, c57, hv57⟩ := Kd.R_slice ho; rw [show (out.take out.length ++ [s]).length = out.length + 1 by rw [List.length_append, HTL.out]; rfl] at hv57; subst hv57; have HOC := Aside0.mk ho; have HBC := Aside0.mk hb; have HSC := Aside0.mk (Nat.le_trans HKB.out.2.1 hg_.size); have HSW := Aside0.mk (Nat.le_trans HKB.out.1 hg_.size); have HDC := Aside0.mk (drop_C0 (Kd.R_reads' (row_lt HOD3.out (HKB.out.2.2 hg_))).2.2 HLC.out); clear ho hb hg_ hat_) | (refine Kd.R_append_rows_step Kd.string (w0 := w) (W := wC) (Rr := Kd.string.K wC) base (by rfl) (.tmp 57) (.tmp 60) 205 9 (.string ⟨#[]⟩) 16 rfl Tryd.underlying205 info9 rfl (by decide) (by omega) (.slice A57 (out.length + 1) c57) (out.take out.length ++ [s]) (out.drop out.length) (if co = out.length then some ak else some (ak.add out.length)) 0 (co - out.length) (fun k => w3.heap.size ≤ k) (fun _ => False) rfl rfl HOC.out HDC.out (fun x cs hx => hx) (fun _ hk => hk.elim) (fun q hq => Nat.le_trans HSW.out hq) HBC.out HSC.out (by rw [List.length_append, HTL.out]; simp; omega) ?_; intro v61 wD ho hb hg_ hat_; obtain ⟨A61, c61, hv61⟩ := Kd.R_slice ho; subst hv61; have HOE := Aside0.mk ho; have HBE := Aside0.mk hb; have HSE := Aside0.mk (Nat.le_trans HSC.out hg_.size); clear ho hb hg_ hat_))
     all_goals
      go_wp2
      go_roundw
      case rel =>
       refine ⟨i + 1, by omega, by go_num, ⟨?_⟩, HBE, HSE⟩
       rw [curK_step HXI.out, HOUT.out, HSX.out, (insS_at s out out.length (Nat.le_refl _) HLT.out).1 rfl]
       have ho := HOE.out
       rw [List.take_length, List.drop_length, List.append_nil, show (out ++ [s]).length = out.length + 1 by simp] at ho
       exact Kd.R_mono ho (fun _ _ => trivial)
      case measure => simp [intOf]; omega
    | none =>
     obtain ⟨rfl, rfl⟩ := R_none HO.out
     go_wp2
     go_quiet (fail)
     go_wp2
     go_quiet (fail)
     go_upto_region 9 with (fail)
     refine with_world (P := fun x => Code.wp _ _ _ _ x) _ ?_
     intro w3 hw3
     have HOD3 := Aside0.mk (show Kd.string.R 9 w3 base (fun _ => True) (.slice none 0 0) [] from by rw [hw3]; exact Kd.R_step HO.out (fun _ _ _ => rfl))
     have HB3 := Aside0.mk (show Below base w w3 from by rw [hw3]; exact pw_below_drewN (pw_below_drewN (pw_below_drewN HB.out _) _) _)
     have HS3 := Aside0.mk (show base ≤ w3.heap.size from by rw [hw3]; exact HS.out)
     clear hw3 q1 q1d
     have HKC := Aside0.mk (show 0 ≤ 0 from Nat.le_refl 0)
     have hkc : (0 : Int) ≤ (0 : Int) := Int.le_refl _
     have hkc2 : decide (0 ≤ 0) = true := decide_eq_true HKC.out
     have hlc : (0 : Int) ≤ (0 : Int) := Int.le_refl _
     have p9 : (0 : Int) ≤ (0 : Int) := by omega
     have p8 : (0 : Int) ≤ (0 : Int) := by omega
     have q1 := HQ1.out _ HB3.out
     have hbq : (ad.add (i * 7)).block < w3.heap.size := World.block_lt_of_cell? w3 ⟨(ad.add (i * 7)).block, (ad.add (i * 7)).off + 1, none⟩ q1
     have HLC := Aside0.mk (Kd.R_reads' HO.out).2.1
     have HTL := Aside0.mk (show (([] : List ByteArray).take 0).length = 0 by rw [List.length_take]; omega)
     have HC3 := Aside0.mk (Kd.R_reads' HOD3.out).2.2
     have HFX := Aside0.mk (show Fct w3 w base none [] 0 s ((w3.alloc (.cells #[] 9)).drew) w3.heap.size from fctX HB3.out HS3.out HC3.out (Nat.le_refl _))
     have HFY := Aside0.mk (show Fct w3 w base none [] 0 s (((w3.alloc (.cells #[] 9)).alloc (.cells #[.string s] 9)).drew) w3.heap.size from fctY HB3.out HS3.out HC3.out (Nat.le_refl _))
     have HFZ := Aside0.mk (show Fct w3 w base none [] 0 s (((w3.alloc (.cells #[.string s] 9)).alloc (.cells #[] 9)).drew) (w3.heap.size + 1) from fctZ HB3.out HS3.out HC3.out (Nat.le_refl _))
     go_region_law (first | (refine Kd.R_append_step Kd.string (w0 := w) (W := (w3.alloc (.cells #[] 9)).drew) base (by rfl) (.tmp 50) (.tmp 56) 205 9 (.string ⟨#[]⟩) 16 rfl Tryd.underlying205 info9 rfl (by decide) (by omega) (.slice (some ⟨w3.heap.size, 0, none⟩) 0 0) [] s [.string s] (fun k => w3.heap.size ≤ k) (fun _ => False) rfl rfl rfl (fun _ hk => hk.elim) (fun q hq => Nat.le_trans HFX.out.le hq) HFX.out.row HFX.out.below (Nat.le_trans HS3.out HFX.out.le) (by simp) ?_; intro v57 wC ho hb hg_ hat_; obtain ⟨A57, c57, hv57⟩ := Kd.R_slice ho; rw [List.nil_append] at hv57 ho; subst hv57; have HOC := Aside0.mk ho; have HBC := Aside0.mk hb; have HSC := Aside0.mk (Nat.le_trans (Nat.le_trans HS3.out HFX.out.le) hg_.size); have HSW := Aside0.mk (Nat.le_trans HFX.out.le hg_.size); clear ho hb hg_ hat_) | (refine Kd.R_append_rows_step Kd.string (w0 := w) (W := ((w3.alloc (.cells #[] 9)).alloc (.cells #[.string s] 9)).drew) (Rr := Kd.string.K (((w3.alloc (.cells #[] 9)).alloc (.cells #[.string s] 9)).drew)) base (by rfl) (.tmp 50) (.tmp 56) 205 9 (.string ⟨#[]⟩) 16 rfl Tryd.underlying205 info9 rfl (by decide) (by omega) (.slice (some ⟨w3.heap.size, 0, none⟩) 0 0) [] [s] (some ⟨w3.heap.size + 1, 0, none⟩) 1 1 (fun k => w3.heap.size ≤ k) (fun _ => False) rfl rfl HFY.out.row (lit1_C (fctSY HB3.out HS3.out HC3.out (Nat.le_refl _) s).1) (fun x cs hx => hx) (fun _ hk => hk.elim) (fun q hq => Nat.le_trans HFY.out.le hq) HFY.out.below (Nat.le_trans HS3.out HFY.out.le) (by simp) ?_; intro v57 wC ho hb hg_ hat_; obtain ⟨A57, c57, hv57⟩ := Kd.R_slice ho; rw [List.nil_append] at hv57 ho; subst hv57; have HOC := Aside0.mk ho; have HBC := Aside0.mk hb; have HSC := Aside0.mk (Nat.le_trans (Nat.le_trans HS3.out HFY.out.le) hg_.size); have HSW := Aside0.mk (Nat.le_trans HFY.out.le hg_.size); clear ho hb hg_ hat_) | (refine Kd.R_append_rows_step Kd.string (w0 := w) (W := ((w3.alloc (.cells #[.string s] 9)).alloc (.cells #[] 9)).drew) (Rr := Kd.string.K (((w3.alloc (.cells #[.string s] 9)).alloc (.cells #[] 9)).drew)) base (by rfl) (.tmp 50) (.tmp 56) 205 9 (.string ⟨#[]⟩) 16 rfl Tryd.underlying205 info9 rfl (by decide) (by omega) (.slice (some ⟨w3.heap.size + 1, 0, none⟩) 0 0) [] [s] (some ⟨w3.heap.size, 0, none⟩) 1 1 (fun k => w3.heap.size ≤ k) (fun _ => False) rfl rfl HFZ.out.row (lit1_C (fctSZ HB3.out HS3.out HC3.out (Nat.le_refl _) s).1) (fun x cs hx => hx) (fun _ hk => hk.elim) (fun q hq => Nat.le_trans HFZ.out.le hq) HFZ.out.below (Nat.le_trans HS3.out HFZ.out.le) (by simp) ?_; intro v57 wC ho hb hg_ hat_; obtain ⟨A57, c57, hv57⟩ := Kd.R_slice ho; rw [List.nil_append] at hv57 ho; subst hv57; have HOC := Aside0.mk ho; have HBC := Aside0.mk hb; have HSC := Aside0.mk (Nat.le_trans (Nat.le_trans HS3.out HFZ.out.le) hg_.size); have HSW := Aside0.mk (Nat.le_trans HFZ.out.le hg_.size); clear ho hb hg_ hat_) | (refine Kd.R_append_rows_step Kd.string (w0 := w) (W := wC) (Rr := Kd.string.K wC) base (by rfl) (.tmp 57) (.tmp 60) 205 9 (.string ⟨#[]⟩) 16 rfl Tryd.underlying205 info9 rfl (by decide) (by omega) (.slice A57 1 c57) [s] [] none 0 0 (fun k => w3.heap.size ≤ k) (fun _ => False) rfl rfl HOC.out (nil_C wC) (fun x cs hx => hx) (fun _ hk => hk.elim) (fun q hq => Nat.le_trans HSW.out hq) HBC.out HSC.out (by simp) ?_; intro v61 wD ho hb hg_ hat_; obtain ⟨A61, c61, hv61⟩ := Kd.R_slice ho; rw [List.append_nil] at hv61 ho; subst hv61; have HOE := Aside0.mk ho; have HBE := Aside0.mk hb; have HSE := Aside0.mk (Nat.le_trans HSC.out hg_.size); clear ho hb hg_ hat_))
     all_goals
      go_wp2
      go_roundw
      case rel =>
       refine ⟨i + 1, by omega, by go_num, ⟨?_⟩, (by first | exact HBE | exact HBC), (by first | exact HSE | exact HSC)⟩
       rw [curK_step HXI.out, HOUT.out, HSX.out, (insS_at s [] 0 (Nat.le_refl _) HLT.out).1 rfl, List.nil_append]
       first | exact Kd.R_mono HOE.out (fun _ _ => trivial) | exact Kd.R_mono HOC.out (fun _ _ => trivial)
      case measure => simp [intOf]; omega
   have d4 : decide ((k : Int) < (out.length : Int)) = true := decide_eq_true (by omega)
   have d5 : decide (k < out.length) = true := decide_eq_true hkl
   have p2 : (0 : Int) ≤ (k : Int) := by omega
   have p3 : (k : Int) < (out.length : Int) := by omega
   obtain ⟨ak, e, qk⟩ := Kd.at_string (Kd.R_reads' HO.out).2.2 (k : Int) (by omega) (by omega)
   subst e
   rw [Int.toNat_natCast, show rdOf ByteArray.empty out (k : Int) = out[k] by simp [rdOf, hkl]] at qk
   obtain ⟨o, ho⟩ : ∃ o, out[k] = o := ⟨_, rfl⟩
   rw [ho] at qk
   have HOK := Aside0.mk ho
   obtain ⟨b, hb⟩ : ∃ b, Op.bytesLess o.toList s.toList = b := ⟨_, rfl⟩
   have HBL := Aside0.mk hb
   clear ho
   cases b
   ·go_wp2
    go_quiet (fail)
    have dkn : ((k : Int) == (out.length : Int)) = false := beq_eq_false_iff_ne.mpr (by omega)
    have dkn2 : (k == out.length) = false := beq_eq_false_iff_ne.mpr (by omega)
    by_cases hos : o = s
    ·have dos : (o.toList == s.toList) = true := by rw [hos]; simp
     have HEQ := Aside0.mk hos
     clear hos
     go_wp2
     go_quiet (fail)
     go_wp2
     go_roundw
     case rel =>
      refine ⟨i + 1, by omega, by go_num, ⟨?_⟩, ⟨pw_below_drewN HB.out _⟩, ⟨HS.out⟩⟩
      rw [curK_step HXI.out, HOUT.out, HSX.out, (insS_at s out k hk HLT.out).2 hkl (by rw [HOK.out]; exact HBL.out), if_pos (HOK.out.trans HEQ.out)]
      exact Kd.R_step HO.out (fun _ _ _ => rfl)
     case measure => simp [intOf]; omega
    have dos : (o.toList == s.toList) = false := beq_eq_false_iff_ne.mpr (fun e => hos (ByteArray.ext (Array.ext' (by rw [← ByteArray.toList_eq o, ← ByteArray.toList_eq s]; exact e))))
    have HEQ := Aside0.mk hos
    clear hos
    go_wp2
    go_quiet (fail)
    go_upto_region 9 with (fail)
    refine with_world (P := fun x => Code.wp _ _ _ _ x) _ ?_
    intro w3 hw3
    have HOD3 := Aside0.mk (show Kd.string.R 9 w3 base (fun _ => True) (.slice (some ak) out.length co) out from by rw [hw3]; exact Kd.R_step HO.out (fun _ _ _ => rfl))
    have HB3 := Aside0.mk (show Below base w w3 from by rw [hw3]; exact pw_below_drewN (pw_below_drewN (pw_below_drewN HB.out _) _) _)
    have HS3 := Aside0.mk (show base ≤ w3.heap.size from by rw [hw3]; exact HS.out)
    clear hw3 q1 q1d qk
    have HKC := Aside0.mk (show k ≤ co from Nat.le_trans hk (Kd.R_reads' HO.out).2.1)
    have hkc : (k : Int) ≤ (co : Int) := by have := HKC.out; omega
    have hkc2 : decide (k ≤ co) = true := decide_eq_true HKC.out
    have hlc : (out.length : Int) ≤ (co : Int) := by have := (Kd.R_reads' HO.out).2.1; omega
    have p9 : (0 : Int) ≤ (k : Int) := by omega
    have p8 : (k : Int) ≤ (out.length : Int) := by omega
    have q1 := HQ1.out _ HB3.out
    have hbq : (ad.add (i * 7)).block < w3.heap.size := World.block_lt_of_cell? w3 ⟨(ad.add (i * 7)).block, (ad.add (i * 7)).off + 1, none⟩ q1
    have HLC := Aside0.mk (Kd.R_reads' HO.out).2.1
    have HTL := Aside0.mk (show (out.take k).length = k by rw [List.length_take]; omega)
    have HC3 := Aside0.mk (Kd.R_reads' HOD3.out).2.2
    have HFX := Aside0.mk (show Fct w3 w base (some ak) out k s ((w3.alloc (.cells #[] 9)).drew) w3.heap.size from fctX HB3.out HS3.out HC3.out hk)
    have HFY := Aside0.mk (show Fct w3 w base (some ak) out k s (((w3.alloc (.cells #[] 9)).alloc (.cells #[.string s] 9)).drew) w3.heap.size from fctY HB3.out HS3.out HC3.out hk)
    have HFZ := Aside0.mk (show Fct w3 w base (some ak) out k s (((w3.alloc (.cells #[.string s] 9)).alloc (.cells #[] 9)).drew) (w3.heap.size + 1) from fctZ HB3.out HS3.out HC3.out hk)
    go_region_law (first | (refine Kd.R_append_rows_step Kd.string (w0 := w) (W := (w3.alloc (.cells #[] 9)).drew) (Rr := Kd.string.K ((w3.alloc (.cells #[] 9)).drew)) base (by rfl) (.tmp 46) (.tmp 49) 205 9 (.string ⟨#[]⟩) 16 rfl Tryd.underlying205 info9 rfl (by decide) (by omega) (.slice (some ⟨w3.heap.size, 0, none⟩) 0 0) [] (out.take k) (some ak) k co (fun k => w3.heap.size ≤ k) (fun _ => False) rfl rfl HFX.out.row HFX.out.take (fun x cs hx => hx) (fun _ hk => hk.elim) (fun q hq => Nat.le_trans HFX.out.le hq) HFX.out.below (Nat.le_trans HS3.out HFX.out.le) (by simp; omega) ?_; intro v50 wB ho hb hg_ hat_; obtain ⟨A50, c50, hv50⟩ := Kd.R_slice ho; rw [List.nil_append] at hv50 ho; rw [HTL.out] at hv50; subst hv50; have HOB := Aside0.mk ho; have HBB := Aside0.mk hb; have HKB := Aside0.mk (HFX.out.after hg_ hat_); have q1B := HQ1.out _ hb; clear ho hb hg_ hat_) | (refine Kd.R_append_rows_step Kd.string (w0 := w) (W := ((w3.alloc (.cells #[] 9)).alloc (.cells #[.string s] 9)).drew) (Rr := Kd.string.K (((w3.alloc (.cells #[] 9)).alloc (.cells #[.string s] 9)).drew)) base (by rfl) (.tmp 46) (.tmp 49) 205 9 (.string ⟨#[]⟩) 16 rfl Tryd.underlying205 info9 rfl (by decide) (by omega) (.slice (some ⟨w3.heap.size, 0, none⟩) 0 0) [] (out.take k) (some ak) k co (fun k => w3.heap.size ≤ k) (fun _ => False) rfl rfl HFY.out.row HFY.out.take (fun x cs hx => hx) (fun _ hk => hk.elim) (fun q hq => Nat.le_trans HFY.out.le hq) HFY.out.below (Nat.le_trans HS3.out HFY.out.le) (by simp; omega) ?_; intro v50 wB ho hb hg_ hat_; obtain ⟨A50, c50, hv50⟩ := Kd.R_slice ho; rw [List.nil_append] at hv50 ho; rw [HTL.out] at hv50; subst hv50; have HOB := Aside0.mk ho; have HBB := Aside0.mk hb; have HKB := Aside0.mk (HFY.out.after hg_ hat_); have q1B := HQ1.out _ hb; have HS1 := Aside0.mk (lit1_C (fctG hg_ (fctSY HB3.out HS3.out HC3.out hk s).1 (by omega))); clear ho hb hg_ hat_) | (refine Kd.R_append_rows_step Kd.string (w0 := w) (W := ((w3.alloc (.cells #[.string s] 9)).alloc (.cells #[] 9)).drew) (Rr := Kd.string.K (((w3.alloc (.cells #[.string s] 9)).alloc (.cells #[] 9)).drew)) base (by rfl) (.tmp 46) (.tmp 49) 205 9 (.string ⟨#[]⟩) 16 rfl Tryd.underlying205 info9 rfl (by decide) (by omega) (.slice (some ⟨(w3.heap.size + 1), 0, none⟩) 0 0) [] (out.take k) (some ak) k co (fun k => w3.heap.size ≤ k) (fun _ => False) rfl rfl HFZ.out.row HFZ.out.take (fun x cs hx => hx) (fun _ hk => hk.elim) (fun q hq => Nat.le_trans HFZ.out.le hq) HFZ.out.below (Nat.le_trans HS3.out HFZ.out.le) (by simp; omega) ?_; intro v50 wB ho hb hg_ hat_; obtain ⟨A50, c50, hv50⟩ := Kd.R_slice ho; rw [List.nil_append] at hv50 ho; rw [HTL.out] at hv50; subst hv50; have HOB := Aside0.mk ho; have HBB := Aside0.mk hb; have HKB := Aside0.mk (HFZ.out.after hg_ hat_); have q1B := HQ1.out _ hb; have HS1 := Aside0.mk (lit1_C (fctG hg_ (fctSZ HB3.out HS3.out HC3.out hk s).1 (by omega))); clear ho hb hg_ hat_) | (refine Kd.R_append_step Kd.string (w0 := w) (W := wB) base (by rfl) (.tmp 50) (.tmp 56) 205 9 (.string ⟨#[]⟩) 16 rfl Tryd.underlying205 info9 rfl (by decide) (by omega) (.slice A50 k c50) (out.take k) s [.string s] (fun k => w3.heap.size ≤ k) (fun _ => False) rfl rfl rfl (fun _ hk => hk.elim) (fun q hq => Nat.le_trans HKB.out.1 hq) HOB.out HBB.out HKB.out.2.1 (by rw [HTL.out]; omega) ?_; intro v57 wC ho hb hg_ hat_; obtain ⟨A57, c57, hv57⟩ := Kd.R_slice ho; rw [show (out.take k ++ [s]).length = k + 1 by rw [List.length_append, HTL.out]; rfl] at hv57; subst hv57; have HOC := Aside0.mk ho; have HBC := Aside0.mk hb; have HSC := Aside0.mk (Nat.le_trans HKB.out.2.1 hg_.size); have HSW := Aside0.mk (Nat.le_trans HKB.out.1 hg_.size); have HDC := Aside0.mk (drop_C (Kd.R_reads' (row_lt HOD3.out (HKB.out.2.2 hg_))).2.2 hk HLC.out); clear ho hb hg_ hat_) | (refine Kd.R_append_rows_step Kd.string (w0 := w) (W := wB) (Rr := Kd.string.K wB) base (by rfl) (.tmp 50) (.tmp 56) 205 9 (.string ⟨#[]⟩) 16 rfl Tryd.underlying205 info9 rfl (by decide) (by omega) (.slice A50 k c50) (out.take k) [s] (some ⟨w3.heap.size + 1, 0, none⟩) 1 1 (fun k => w3.heap.size ≤ k) (fun _ => False) rfl rfl HOB.out HS1.out (fun x cs hx => hx) (fun _ hk => hk.elim) (fun q hq => Nat.le_trans HKB.out.1 hq) HBB.out HKB.out.2.1 (by rw [HTL.out]; omega) ?_; intro v57 wC ho hb hg_ hat_; obtain ⟨A57, c57, hv57⟩ := Kd.R_slice ho; rw [show (out.take k ++ [s]).length = k + 1 by rw [List.length_append, HTL.out]; rfl] at hv57; subst hv57; have HOC := Aside0.mk ho; have HBC := Aside0.mk hb; have HSC := Aside0.mk (Nat.le_trans HKB.out.2.1 hg_.size); have HSW := Aside0.mk (Nat.le_trans HKB.out.1 hg_.size); have HDC := Aside0.mk (drop_C (Kd.R_reads' (row_lt HOD3.out (HKB.out.2.2 hg_))).2.2 hk HLC.out); clear ho hb hg_ hat_) | (refine Kd.R_append_rows_step Kd.string (w0 := w) (W := wB) (Rr := Kd.string.K wB) base (by rfl) (.tmp 50) (.tmp 56) 205 9 (.string ⟨#[]⟩) 16 rfl Tryd.underlying205 info9 rfl (by decide) (by omega) (.slice A50 k c50) (out.take k) [s] (some ⟨w3.heap.size, 0, none⟩) 1 1 (fun k => w3.heap.size ≤ k) (fun _ => False) rfl rfl HOB.out HS1.out (fun x cs hx => hx) (fun _ hk => hk.elim) (fun q hq => Nat.le_trans HKB.out.1 hq) HBB.out HKB.out.2.1 (by rw [HTL.out]; omega) ?_; intro v57 wC ho hb hg_ hat_; obtain ⟨A57, c57, hv57⟩ := Kd.R_slice ho; rw [show (out.take k ++ [s]).length = k + 1 by rw [List.length_append, HTL.out]; rfl] at hv57; subst hv57; have HOC := Aside0.mk ho; have HBC := Aside0.mk hb; have HSC := Aside0.mk (Nat.le_trans HKB.out.2.1 hg_.size); have HSW := Aside0.mk (Nat.le_trans HKB.out.1 hg_.size); have HDC := Aside0.mk (drop_C (Kd.R_reads' (row_lt HOD3.out (HKB.out.2.2 hg_))).2.2 hk HLC.out); clear ho hb hg_ hat_) | (refine Kd.R_append_rows_step Kd.string (w0 := w) (W := wC) (Rr := Kd.string.K wC) base (by rfl) (.tmp 57) (.tmp 60) 205 9 (.string ⟨#[]⟩) 16 rfl Tryd.underlying205 info9 rfl (by decide) (by omega) (.slice A57 (k + 1) c57) (out.take k ++ [s]) (out.drop k) (if co = k then some ak else some (ak.add k)) (out.length - k) (co - k) (fun k => w3.heap.size ≤ k) (fun _ => False) rfl rfl HOC.out HDC.out (fun x cs hx => hx) (fun _ hk => hk.elim) (fun q hq => Nat.le_trans HSW.out hq) HBC.out HSC.out (by rw [List.length_append, HTL.out]; simp; omega) ?_; intro v61 wD ho hb hg_ hat_; obtain ⟨A61, c61, hv61⟩ := Kd.R_slice ho; subst hv61; have HOE := Aside0.mk ho; have HBE := Aside0.mk hb; have HSE := Aside0.mk (Nat.le_trans HSC.out hg_.size); clear ho hb hg_ hat_))
    all_goals
     go_wp2
     go_roundw
     case rel =>
      refine ⟨i + 1, by omega, by go_num, ⟨?_⟩, HBE, HSE⟩
      rw [curK_step HXI.out, HOUT.out, HSX.out, (insS_at s out k hk HLT.out).2 hkl (by rw [HOK.out]; exact HBL.out), if_neg (fun e => HEQ.out (HOK.out.symm.trans e))]
      have ho := HOE.out
      rw [show (out.take k ++ [s] ++ out.drop k).length = k + (out.length - k + 1) by simp; omega] at ho
      exact Kd.R_mono ho (fun _ _ => trivial)
     case measure => simp [intOf]; omega
   ·have hrel2 : ∀ j (h : j < out.length), j < k + 1 → ltB out[j] s = true := by
     intro j h hj
     by_cases e : j = k
     ·subst e
      rw [HOK.out]
      exact HBL.out
     exact HLT.out j h (by omega)
    have HREL := Aside0.mk hrel2
    clear hrel2
    go_wp2
    go_quiet (fail)
    go_wp2
    go_roundw
    case rel => exact ⟨k + 1, by omega, by go_num, ⟨⟨_, rfl⟩⟩, HREL⟩
    case measure => simp [intOf]; omega
end Go.Proofs.YtppcjoaghlecmaaDoor.P
namespace Go.Proofs.YtppcjoaghlecmaaDoor.P
open Go.RowKit Go.Sort Go.Proofs.YtppcjoaghlecmaaDoorW.PrintWords Go.Proofs.YtppcjoaghlecmaaDoorW.PrintLast Go.Proofs.YtppcjoaghlecmaaDoorW.PrintMore
set_option linter.unusedVariables false
def accountingref12_currencies.f (l0 : List S109) : Option (List ByteArray) := if l0.length ≤ 1000000 then some (curK l0) else none
theorem accountingref12_currencies.calls (A0 : Option Addr) (c0 : Nat) (l0 : List (S109)) (r : List ByteArray) (w : World) (hr0 : Kd.C k109 w A0 l0.length l0) (hc0 : l0.length ≤ c0) (h : accountingref12_currencies.f l0 = some r) :
  Calls Tryd.prog 143 #[.slice A0 l0.length c0] w fun e w' => ∃ v0_ : Value, e = .returned (v0_) ∧ Kd.R Kd.string 9 w' w.heap.size (fun _ => True) v0_ r ∧ Below w.heap.size w w' := by
 unfold accountingref12_currencies.f at h
 split at h
 ·rename_i hl
  obtain rfl := Option.some.inj h
  exact currencies_calls A0 c0 l0 w hr0 hc0 hl
 ·cases h
end Go.Proofs.YtppcjoaghlecmaaDoor.P
namespace Go.Proofs.YtppcjoaghlecmaaDoor.P
open Go.RowKit Go.Proofs.YtppcjoaghlecmaaDoorW.PrintWords Go.Proofs.YtppcjoaghlecmaaDoorW.PrintLast Go.Proofs.YtppcjoaghlecmaaDoorW.PrintMore
attribute [local go_sem] max2_int min2_int max_two min_two max_three min_three max_four min_four
set_option linter.unusedVariables false
set_option linter.unusedSimpArgs false
def accountingref12_day.f (a0 : Int) : Option (Bool) := if a0 ≥ 0 then (some (decide (a0 ≤ 109572))) else (some false)
set_option maxHeartbeats 8000000 in
set_option maxRecDepth 100000 in
theorem accountingref12_day.calls (a0 : Int) (r : Bool) (w : World) (h : accountingref12_day.f a0 = some r) :
  Calls Tryd.prog 138 #[.int .i64 a0] w fun e w' => e = .returned (.bool r) ∧ Drawn0 w w' := by
 have H : (if a0 ≥ 0 then (some (decide (a0 ≤ 109572))) else (some false)) = some r := h
 clear h
 by_cases c2 : a0 ≥ 0
 ·rw [if_pos c2] at H
  have c2b0 : decide (0 ≤ a0) = true := decide_eq_true c2
  clear c2
  obtain rfl := Option.some.inj H
  go_enter Tryd.func138, Tryd.ntmps138
  go_wp2
  go_ret
  exact ⟨by first | rfl | (simp; done) | (simp [*]; done), by repeat (first | exact Drawn0.refl _ | apply Drawn0.step)⟩
 ·rw [if_neg c2] at H
  have c2b0 : decide (0 ≤ a0) = false := decide_eq_false c2
  clear c2
  obtain rfl := Option.some.inj H
  go_enter Tryd.func138, Tryd.ntmps138
  go_wp2
  go_ret
  exact ⟨by first | rfl | (simp; done) | (simp [*]; done), by repeat (first | exact Drawn0.refl _ | apply Drawn0.step)⟩
def accountingref06_Plain.l0 : Nat → ByteArray → Int → Option (Bool)
 | 0, _, _ => none
 | k + 1, x0, x3 => if x3 < (x0.size : Int) then (if 0 ≤ x3 then (if (bt x0 x3) < 32 then (some false) else (if (bt x0 x3) > 126 then (some false) else (accountingref06_Plain.l0 k x0 (wrap64 (x3 + 1))))) else (none)) else (some (decide ((x0.size : Int) ≤ 60)))
def accountingref06_Plain.f (k : Nat) (a0 : ByteArray) : Option (Bool) := accountingref06_Plain.l0 k a0 0
set_option maxHeartbeats 8000000 in
set_option maxRecDepth 100000 in
theorem accountingref06_Plain.calls (k : Nat) (a0 : ByteArray) (r : Bool) (w : World) (h : accountingref06_Plain.f k a0 = some r) :
  Calls Tryd.prog 139 #[.string a0] w fun e w' => e = .returned (.bool r) ∧ Drawn0 w w' := by
 have H : (accountingref06_Plain.l0 k a0 0) = some r := h
 clear h
 have H' := Aside0.mk H
 clear H
 go_enter Tryd.func139, Tryd.ntmps139
 go_wp2
 go_loopg [3] k (fun kq v3 w' => ∃ (x3_1 : Int), v3 = .int .i64 x3_1 ∧ Aside0 (accountingref06_Plain.l0 kq a0 x3_1 = some r) ∧ Aside0 (kq ≤ k) ∧ Drawn0 w w')
 case atStart => exact ⟨(0), sm_, H', ⟨Nat.le_refl _⟩, by repeat (first | exact Drawn0.refl _ | apply Drawn0.step)⟩
 case round =>
  clear H'
  try clear c1
  obtain ⟨x3_1, rfl, HA, HK1, ⟨m1, rfl⟩⟩ := hrel
  cases gk with
  | zero => exact absurd HA.out (by simp [accountingref06_Plain.l0])
  | succ k1 =>
   have H := HA.out
   clear HA
   simp only [accountingref06_Plain.l0] at H
   by_cases c2 : x3_1 < (a0.size : Int)
   ·rw [if_pos c2] at H
    have c2b0 : decide (x3_1 < (a0.size : Int)) = true := decide_eq_true c2
    clear c2
    by_cases c3 : 0 ≤ x3_1
    ·rw [if_pos c3] at H
     have c3b0 : decide (0 ≤ x3_1) = true := decide_eq_true c3
     clear c3
     by_cases c5 : (bt a0 x3_1) < 32
     ·rw [if_pos c5] at H
      have c5b0 : decide ((bt a0 x3_1) < 32) = true := decide_eq_true c5
      clear c5
      obtain rfl := Option.some.inj H
      have p4 : 0 ≤ (x3_1 : Int) := odt_
      have q4 : x3_1 < (a0.size : Int) := odt_
      have hx4 := bt_at a0 x3_1
      replace p4 := eq_true p4
      replace q4 := eq_true q4
      go_wp2
      go_ret
      exact ⟨by first | rfl | (simp; done) | (simp [*]; done), by repeat (first | exact Drawn0.refl _ | apply Drawn0.step)⟩
     ·rw [if_neg c5] at H
      have c5b0 : decide ((bt a0 x3_1) < 32) = false := decide_eq_false c5
      clear c5
      by_cases c7 : (bt a0 x3_1) > 126
      ·rw [if_pos c7] at H
       have c7b0 : decide (126 < (bt a0 x3_1)) = true := decide_eq_true c7
       clear c7
       obtain rfl := Option.some.inj H
       have p4 : 0 ≤ (x3_1 : Int) := odt_
       have q4 : x3_1 < (a0.size : Int) := odt_
       have hx4 := bt_at a0 x3_1
       replace p4 := eq_true p4
       replace q4 := eq_true q4
       have p6 : 0 ≤ (x3_1 : Int) := odt_
       have q6 : x3_1 < (a0.size : Int) := odt_
       have hx6 := bt_at a0 x3_1
       replace p6 := eq_true p6
       replace q6 := eq_true q6
       go_wp2
       go_ret
       exact ⟨by first | rfl | (simp; done) | (simp [*]; done), by repeat (first | exact Drawn0.refl _ | apply Drawn0.step)⟩
      ·rw [if_neg c7] at H
       have c7b0 : decide (126 < (bt a0 x3_1)) = false := decide_eq_false c7
       clear c7
       have H' := Aside0.mk H
       clear H
       have p4 : 0 ≤ (x3_1 : Int) := odt_
       have q4 : x3_1 < (a0.size : Int) := odt_
       have hx4 := bt_at a0 x3_1
       replace p4 := eq_true p4
       replace q4 := eq_true q4
       have p6 : 0 ≤ (x3_1 : Int) := odt_
       have q6 : x3_1 < (a0.size : Int) := odt_
       have hx6 := bt_at a0 x3_1
       replace p6 := eq_true p6
       replace q6 := eq_true q6
       go_wp2
       go_roundg k1
       case measure => have := HK1.out; omega
       case rel => exact ⟨(wrap64 (x3_1 + 1)), sm_, H', ⟨by have := HK1.out; omega⟩, by repeat (first | exact Drawn0.refl _ | apply Drawn0.step)⟩
    ·rw [if_neg c3] at H
     exact absurd H (by simp)
   ·rw [if_neg c2] at H
    have c2b0 : decide (x3_1 < (a0.size : Int)) = false := decide_eq_false c2
    clear c2
    obtain rfl := Option.some.inj H
    go_wp2
    go_ret
    exact ⟨by first | rfl | (simp; done) | (simp [*]; done), by repeat (first | exact Drawn0.refl _ | apply Drawn0.step)⟩
mutual
def accountingref12_head.j0 : Nat → Bool → Int → ByteArray → Int → Int → Int → ByteArray → ByteArray → Int → List (S109) → Option (Int)
 | 0, _, _, _, _, _, _, _, _, _, _ => none
 | k + 1, x3, x181000, x181001, x181002, x181003, x181004, x181005, x181006, x181007, x181008 => if x3 = true then (some 3) else ((accountingref06_Code.f k x181001).bind fun t181 => (if t181 = true then ((accountingref06_Code.f k x181006).bind fun t182 => (accountingref12_head.j1 k (!t182) x181000 x181001 x181002 x181003 x181004 x181005 x181006 x181007 x181008)) else (accountingref12_head.j1 k true x181000 x181001 x181002 x181003 x181004 x181005 x181006 x181007 x181008)))
def accountingref12_head.j1 : Nat → Bool → Int → ByteArray → Int → Int → Int → ByteArray → ByteArray → Int → List (S109) → Option (Int)
 | 0, _, _, _, _, _, _, _, _, _, _ => none
 | k + 1, x22, x181000, x181001, x181002, x181003, x181004, x181005, x181006, x181007, x181008 => if x22 = true then (some 7) else ((accountingref12_day.f x181002).bind fun t183 => (if t183 = true then ((accountingref12_day.f x181003).bind fun t184 => (accountingref12_head.j2 k (!t184) x181000 x181001 x181002 x181003 x181004 x181005 x181006 x181007 x181008)) else (accountingref12_head.j2 k true x181000 x181001 x181002 x181003 x181004 x181005 x181006 x181007 x181008)))
def accountingref12_head.j2 : Nat → Bool → Int → ByteArray → Int → Int → Int → ByteArray → ByteArray → Int → List (S109) → Option (Int)
 | 0, _, _, _, _, _, _, _, _, _, _ => none
 | k + 1, x33, x181000, x181001, x181002, x181003, x181004, x181005, x181006, x181007, x181008 => if x33 = true then (some 11) else (if x181004 < 1 then (accountingref12_head.j3 k true x181000 x181001 x181002 x181003 x181004 x181005 x181006 x181007 x181008) else (accountingref12_head.j3 k (decide (x181004 > 7)) x181000 x181001 x181002 x181003 x181004 x181005 x181006 x181007 x181008))
def accountingref12_head.j3 : Nat → Bool → Int → ByteArray → Int → Int → Int → ByteArray → ByteArray → Int → List (S109) → Option (Int)
 | 0, _, _, _, _, _, _, _, _, _, _ => none
 | k + 1, x44, x181000, x181001, x181002, x181003, x181004, x181005, x181006, x181007, x181008 => if x44 = true then (some 10) else ((accountingref06_Plain.f k x181005).bind fun t185 => (if t185 = true then (if (x181008.length : Int) < 2 then (some 2) else (if (x181008.length : Int) > 100 then (some 9) else (some 0))) else (some 5)))
end
def accountingref12_head.f (k : Nat) (a0_0 : Int) (a0_1 : ByteArray) (a0_2 : Int) (a0_3 : Int) (a0_4 : Int) (a0_5 : ByteArray) (a0_6 : ByteArray) (a0_7 : Int) (l0_8 : List (S109)) : Option (Int) := if a0_0 < 0 then (accountingref12_head.j0 k true a0_0 a0_1 a0_2 a0_3 a0_4 a0_5 a0_6 a0_7 l0_8) else (if a0_0 > 4000 then (accountingref12_head.j0 k true a0_0 a0_1 a0_2 a0_3 a0_4 a0_5 a0_6 a0_7 l0_8) else (if a0_7 < 0 then (accountingref12_head.j0 k true a0_0 a0_1 a0_2 a0_3 a0_4 a0_5 a0_6 a0_7 l0_8) else (accountingref12_head.j0 k (decide (a0_7 > 4000)) a0_0 a0_1 a0_2 a0_3 a0_4 a0_5 a0_6 a0_7 l0_8)))
set_option maxHeartbeats 8000000 in
set_option maxRecDepth 100000 in
theorem accountingref12_head.calls (k : Nat) (a0_0 : Int) (a0_1 : ByteArray) (a0_2 : Int) (a0_3 : Int) (a0_4 : Int) (a0_5 : ByteArray) (a0_6 : ByteArray) (a0_7 : Int) (A0_8 : Option Addr) (c0_8 : Nat) (l0_8 : List (S109)) (r : Int) (w : World) (hr0_8 : Kd.C k109 w A0_8 l0_8.length l0_8) (hc0_8 : l0_8.length ≤ c0_8) (h : accountingref12_head.f k a0_0 a0_1 a0_2 a0_3 a0_4 a0_5 a0_6 a0_7 l0_8 = some r) :
  Calls Tryd.prog 100 #[.agg #[.int .i64 a0_0, .string a0_1, .int .i64 a0_2, .int .i64 a0_3, .int .i64 a0_4, .string a0_5, .string a0_6, .int .i64 a0_7, .slice A0_8 l0_8.length c0_8]] w fun e w' => e = .returned (.int .i64 r) ∧ Below w.heap.size w w' := by
 have hu29 := Tryd.underlying29
 have HR0_8 := Aside0.mk hr0_8
 have HC0_8 := Aside0.mk hc0_8
 clear hr0_8 hc0_8
 have HB := Aside0.mk (Below.refl w.heap.size w)
 have H : (if a0_0 < 0 then (accountingref12_head.j0 k true a0_0 a0_1 a0_2 a0_3 a0_4 a0_5 a0_6 a0_7 l0_8) else (if a0_0 > 4000 then (accountingref12_head.j0 k true a0_0 a0_1 a0_2 a0_3 a0_4 a0_5 a0_6 a0_7 l0_8) else (if a0_7 < 0 then (accountingref12_head.j0 k true a0_0 a0_1 a0_2 a0_3 a0_4 a0_5 a0_6 a0_7 l0_8) else (accountingref12_head.j0 k (decide (a0_7 > 4000)) a0_0 a0_1 a0_2 a0_3 a0_4 a0_5 a0_6 a0_7 l0_8)))) = some r := h
 clear h
 have HC2 := Aside0.mk H
 clear H
 go_enter Tryd.func100, Tryd.ntmps100
 go_upto_region 1 with (first | ((with_reducible refine gate_dst (N := 1) rfl ?_); refine box_event ?hg (N := 1) ?hd (cs := #[.int .i64 a0_0, .string a0_1, .int .i64 a0_2, .int .i64 a0_3, .int .i64 a0_4, .string a0_5, .string a0_6, .int .i64 a0_7, .slice A0_8 l0_8.length c0_8]) (t := 29) ?hr ?_; (case hd => rfl); (case hg => rfl); (case hr => first | (go_simp; done) | (go_simp; rfl)); intro gb180 hg w3 hbox hb; have n0_ := Aside0.mk (below_step (bw_) hb); have n1_ := Aside0.mk (hbox); have n2_ := Aside0.mk (gw_ (w := w) hg); have n3_ := Aside0.mk (gw_ (w := w) hg); clear HB; have HB := n0_; have BK180 := n1_; have GW180 := n2_; have GE180 := n3_; clear n0_ n1_ n2_ n3_; clear hb hbox hg))
 (try simp only [Act.put, List.setIfInBounds_toArray, List.set_cons_zero, List.set_cons_succ])
 go_cut [3] (fun v3 wc => ∃ (kq : Nat) (x3_1 : Bool), v3 = .bool x3_1 ∧ Aside0 (accountingref12_head.j0 kq x3_1 a0_0 a0_1 a0_2 a0_3 a0_4 a0_5 a0_6 a0_7 l0_8 = some r) ∧ Aside0 (kq ≤ k) ∧ Aside0 (wc.heap[gb180]? = some (.cells #[.int .i64 a0_0, .string a0_1, .int .i64 a0_2, .int .i64 a0_3, .int .i64 a0_4, .string a0_5, .string a0_6, .int .i64 a0_7, (.slice A0_8 l0_8.length c0_8)] 29 (0, 0))) ∧ Aside0 (Below w.heap.size w wc))
 case first =>
  have H := HC2.out
  clear HC2
  by_cases c4 : a0_0 < 0
  ·rw [if_pos c4] at H
   have c4b0 : decide (a0_0 < 0) = true := decide_eq_true c4
   clear c4
   (first | rw [c4b0] | (simp only [i64_w, i32_w]; rw [c4b0]) | skip)
   have H' := Aside0.mk H
   clear H
   obtain ⟨hcz5_0, hcz5_1, hcz5_2, hcz5_3, hcz5_4, hcz5_5, hcz5_6, hcz5_7, hcz5_8⟩ := bc9_ (w := w3) BK180.out
   obtain ⟨hfz5_0, hfz5_1, hfz5_2, hfz5_3, hfz5_4, hfz5_5, hfz5_6, hfz5_7, hfz5_8⟩ := bf9_ BK180.out
   go_wp2
   go_meet
   case rel => exact ⟨_, (true), sm_, H', ⟨by first | omega | exact Nat.le_refl _⟩, ⟨by (with_reducible repeat (first | refine blk_drewN ?_ _ | refine blk_drew ?_ | refine blk_alloc ?_ _)); exact BK180.out⟩, ⟨bwx_⟩⟩
  rw [if_neg c4] at H
  have c4b0 : decide (a0_0 < 0) = false := decide_eq_false c4
  clear c4
  (first | rw [c4b0] | (simp only [i64_w, i32_w]; rw [c4b0]) | skip)
  by_cases c6 : a0_0 > 4000
  ·rw [if_pos c6] at H
   have c6b0 : decide (4000 < a0_0) = true := decide_eq_true c6
   clear c6
   have H' := Aside0.mk H
   clear H
   obtain ⟨hcz7_0, hcz7_1, hcz7_2, hcz7_3, hcz7_4, hcz7_5, hcz7_6, hcz7_7, hcz7_8⟩ := bc9_ (w := w3) BK180.out
   obtain ⟨hfz7_0, hfz7_1, hfz7_2, hfz7_3, hfz7_4, hfz7_5, hfz7_6, hfz7_7, hfz7_8⟩ := bf9_ BK180.out
   go_wp2
   go_meet
   case rel => exact ⟨_, (true), sm_, H', ⟨by first | omega | exact Nat.le_refl _⟩, ⟨by (with_reducible repeat (first | refine blk_drewN ?_ _ | refine blk_drew ?_ | refine blk_alloc ?_ _)); exact BK180.out⟩, ⟨bwx_⟩⟩
  rw [if_neg c6] at H
  have c6b0 : decide (4000 < a0_0) = false := decide_eq_false c6
  clear c6
  by_cases c8 : a0_7 < 0
  ·rw [if_pos c8] at H
   have c8b0 : decide (a0_7 < 0) = true := decide_eq_true c8
   clear c8
   have H' := Aside0.mk H
   clear H
   obtain ⟨hcz9_0, hcz9_1, hcz9_2, hcz9_3, hcz9_4, hcz9_5, hcz9_6, hcz9_7, hcz9_8⟩ := bc9_ (w := w3) BK180.out
   obtain ⟨hfz9_0, hfz9_1, hfz9_2, hfz9_3, hfz9_4, hfz9_5, hfz9_6, hfz9_7, hfz9_8⟩ := bf9_ BK180.out
   go_wp2
   go_meet
   case rel => exact ⟨_, (true), sm_, H', ⟨by first | omega | exact Nat.le_refl _⟩, ⟨by (with_reducible repeat (first | refine blk_drewN ?_ _ | refine blk_drew ?_ | refine blk_alloc ?_ _)); exact BK180.out⟩, ⟨bwx_⟩⟩
  rw [if_neg c8] at H
  have c8b0 : decide (a0_7 < 0) = false := decide_eq_false c8
  clear c8
  have H' := Aside0.mk H
  clear H
  obtain ⟨hcz10_0, hcz10_1, hcz10_2, hcz10_3, hcz10_4, hcz10_5, hcz10_6, hcz10_7, hcz10_8⟩ := bc9_ (w := w3) BK180.out
  obtain ⟨hfz10_0, hfz10_1, hfz10_2, hfz10_3, hfz10_4, hfz10_5, hfz10_6, hfz10_7, hfz10_8⟩ := bf9_ BK180.out
  go_wp2
  go_meet
  case rel => exact ⟨_, (decide (a0_7 > 4000)), sm_, H', ⟨by first | omega | exact Nat.le_refl _⟩, ⟨by (with_reducible repeat (first | refine blk_drewN ?_ _ | refine blk_drew ?_ | refine blk_alloc ?_ _)); exact BK180.out⟩, ⟨bwx_⟩⟩
 case rest =>
  clear HC2
  try clear c1
  try clear p2
  try clear c4
  try clear c4b0
  try clear c6
  try clear c6b0
  try clear c8
  try clear c8b0
  try clear c10
  try clear hcz10_0 hcz10_1 hcz10_2 hcz10_3 hcz10_4 hcz10_5 hcz10_6 hcz10_7 hcz10_8
  try clear hcz5_0 hcz5_1 hcz5_2 hcz5_3 hcz5_4 hcz5_5 hcz5_6 hcz5_7 hcz5_8
  try clear hcz7_0 hcz7_1 hcz7_2 hcz7_3 hcz7_4 hcz7_5 hcz7_6 hcz7_7 hcz7_8
  try clear hcz9_0 hcz9_1 hcz9_2 hcz9_3 hcz9_4 hcz9_5 hcz9_6 hcz9_7 hcz9_8
  try clear hfz10_0 hfz10_1 hfz10_2 hfz10_3 hfz10_4 hfz10_5 hfz10_6 hfz10_7 hfz10_8
  try clear hfz5_0 hfz5_1 hfz5_2 hfz5_3 hfz5_4 hfz5_5 hfz5_6 hfz5_7 hfz5_8
  try clear hfz7_0 hfz7_1 hfz7_2 hfz7_3 hfz7_4 hfz7_5 hfz7_6 hfz7_7 hfz7_8
  try clear hfz9_0 hfz9_1 hfz9_2 hfz9_3 hfz9_4 hfz9_5 hfz9_6 hfz9_7 hfz9_8
  obtain ⟨kq, x3_1, rfl, HA, HJ1, BK180, HB⟩ := hcut
  cases kq with
  | zero => exact absurd HA.out (by simp [accountingref12_head.j0])
  | succ kj1 =>
   have H := HA.out
   clear HA
   simp only [accountingref12_head.j0] at H
   by_cases c11 : x3_1 = true
   ·subst c11
    have H1 : (some 3) = some r := by rw [if_pos rfl] at H; exact H
    clear H
    have H := H1
    clear H1
    obtain rfl := Option.some.inj H
    go_wp2
    go_ret
    exact ⟨ew_, bwx_⟩
   ·replace c11 := Bool.eq_false_iff.mpr c11
    subst c11
    have H1 : ((accountingref06_Code.f kj1 a0_1).bind fun t181 => (if t181 = true then ((accountingref06_Code.f kj1 a0_6).bind fun t182 => (accountingref12_head.j1 kj1 (!t182) a0_0 a0_1 a0_2 a0_3 a0_4 a0_5 a0_6 a0_7 l0_8)) else (accountingref12_head.j1 kj1 true a0_0 a0_1 a0_2 a0_3 a0_4 a0_5 a0_6 a0_7 l0_8))) = some r := by rw [if_neg (show ¬ (false = true) by decide)] at H; exact H
    clear H
    have H := H1
    clear H1
    have HC12 := Aside0.mk H
    clear H
    go_upto_region 3 with (fail)
    go_cut [22] (fun v22 wc => ∃ (kq : Nat) (x22_11 : Bool), v22 = .bool x22_11 ∧ Aside0 (accountingref12_head.j1 kq x22_11 a0_0 a0_1 a0_2 a0_3 a0_4 a0_5 a0_6 a0_7 l0_8 = some r) ∧ Aside0 (kq ≤ kj1) ∧ Aside0 (wc.heap[gb180]? = some (.cells #[.int .i64 a0_0, .string a0_1, .int .i64 a0_2, .int .i64 a0_3, .int .i64 a0_4, .string a0_5, .string a0_6, .int .i64 a0_7, (.slice A0_8 l0_8.length c0_8)] 29 (0, 0))) ∧ Aside0 (Below w.heap.size w wc))
    case first =>
     have H := HC12.out
     clear HC12
     replace H := Option.bind_eq_some_iff.mp H
     obtain ⟨t181, A130, H⟩ := H
     try dsimp only at H
     have A13 := Aside0.mk A130
     clear A130
     by_cases c14 : t181 = true
     rotate_left
     ·replace c14 := Bool.eq_false_iff.mpr c14
      subst c14
      have H1 : (accountingref12_head.j1 kj1 true a0_0 a0_1 a0_2 a0_3 a0_4 a0_5 a0_6 a0_7 l0_8) = some r := by rw [if_neg (show ¬ (false = true) by decide)] at H; exact H
      clear H
      have H := H1
      clear H1
      have H' := Aside0.mk H
      clear H
      obtain ⟨hcz17_0, hcz17_1, hcz17_2, hcz17_3, hcz17_4, hcz17_5, hcz17_6, hcz17_7, hcz17_8⟩ := bc9_ (w := wc) BK180.out
      obtain ⟨hfz17_0, hfz17_1, hfz17_2, hfz17_3, hfz17_4, hfz17_5, hfz17_6, hfz17_7, hfz17_8⟩ := bf9_ BK180.out
      go_wp2_with (first | ((with_reducible refine gate_callee (f := 113) rfl ?_); refine goesL_ (some 25) rfl rfl Tryd.func113 (by kernel_rfl) rfl #[.string a0_1] rfl ml_ ?_; (with_reducible refine (accountingref06_Code.calls kj1 a0_1 false _ A13.out).mono ?_); rintro e w' ⟨rfl, ⟨nd, rfl⟩⟩; refine ⟨_, rfl, ?_⟩))
      go_meet
      case rel => exact ⟨_, (true), sm_, H', ⟨by have := HJ1.out; first | omega | exact Nat.le_refl _⟩, ⟨by (with_reducible repeat (first | refine blk_drewN ?_ _ | refine blk_drew ?_ | refine blk_alloc ?_ _)); exact BK180.out⟩, ⟨bwx_⟩⟩
     subst c14
     have H1 : ((accountingref06_Code.f kj1 a0_6).bind fun t182 => (accountingref12_head.j1 kj1 (!t182) a0_0 a0_1 a0_2 a0_3 a0_4 a0_5 a0_6 a0_7 l0_8)) = some r := by rw [if_pos rfl] at H; exact H
     clear H
     have H := H1
     clear H1
     replace H := Option.bind_eq_some_iff.mp H
     obtain ⟨t182, A150, H⟩ := H
     replace H : (accountingref12_head.j1 kj1 (!t182) a0_0 a0_1 a0_2 a0_3 a0_4 a0_5 a0_6 a0_7 l0_8) = some r := H
     have A15 := Aside0.mk A150
     clear A150
     have H' := Aside0.mk H
     clear H
     obtain ⟨hcz16_0, hcz16_1, hcz16_2, hcz16_3, hcz16_4, hcz16_5, hcz16_6, hcz16_7, hcz16_8⟩ := bc9_ (w := wc) BK180.out
     obtain ⟨hfz16_0, hfz16_1, hfz16_2, hfz16_3, hfz16_4, hfz16_5, hfz16_6, hfz16_7, hfz16_8⟩ := bf9_ BK180.out
     go_wp2_with (first | ((with_reducible refine gate_callee (f := 113) rfl ?_); refine goesL_ (some 25) rfl rfl Tryd.func113 (by kernel_rfl) rfl #[.string a0_1] rfl ml_ ?_; (with_reducible refine (accountingref06_Code.calls kj1 a0_1 true _ A13.out).mono ?_); rintro e w' ⟨rfl, ⟨nd, rfl⟩⟩; refine ⟨_, rfl, ?_⟩) | (go_at_call 113; (with_reducible refine (accountingref06_Code.calls kj1 a0_6 t182 _ A15.out).mono ?_); rintro e w' ⟨rfl, ⟨nd, rfl⟩⟩))
     go_meet
     case rel => exact ⟨_, (!t182), sm_, H', ⟨by have := HJ1.out; first | omega | exact Nat.le_refl _⟩, ⟨by (with_reducible repeat (first | refine blk_drewN ?_ _ | refine blk_drew ?_ | refine blk_alloc ?_ _)); exact BK180.out⟩, ⟨bwx_⟩⟩
    case rest =>
     clear HC12
     try clear c1
     try clear p2
     try clear c4
     try clear c4b0
     try clear c6
     try clear c6b0
     try clear c8
     try clear c8b0
     try clear c10
     try clear c11
     try clear c14
     try clear hcz10_0 hcz10_1 hcz10_2 hcz10_3 hcz10_4 hcz10_5 hcz10_6 hcz10_7 hcz10_8
     try clear hcz16_0 hcz16_1 hcz16_2 hcz16_3 hcz16_4 hcz16_5 hcz16_6 hcz16_7 hcz16_8
     try clear hcz17_0 hcz17_1 hcz17_2 hcz17_3 hcz17_4 hcz17_5 hcz17_6 hcz17_7 hcz17_8
     try clear hcz5_0 hcz5_1 hcz5_2 hcz5_3 hcz5_4 hcz5_5 hcz5_6 hcz5_7 hcz5_8
     try clear hcz7_0 hcz7_1 hcz7_2 hcz7_3 hcz7_4 hcz7_5 hcz7_6 hcz7_7 hcz7_8
     try clear hcz9_0 hcz9_1 hcz9_2 hcz9_3 hcz9_4 hcz9_5 hcz9_6 hcz9_7 hcz9_8
     try clear hfz10_0 hfz10_1 hfz10_2 hfz10_3 hfz10_4 hfz10_5 hfz10_6 hfz10_7 hfz10_8
     try clear hfz16_0 hfz16_1 hfz16_2 hfz16_3 hfz16_4 hfz16_5 hfz16_6 hfz16_7 hfz16_8
     try clear hfz17_0 hfz17_1 hfz17_2 hfz17_3 hfz17_4 hfz17_5 hfz17_6 hfz17_7 hfz17_8
     try clear hfz5_0 hfz5_1 hfz5_2 hfz5_3 hfz5_4 hfz5_5 hfz5_6 hfz5_7 hfz5_8
     try clear hfz7_0 hfz7_1 hfz7_2 hfz7_3 hfz7_4 hfz7_5 hfz7_6 hfz7_7 hfz7_8
     try clear hfz9_0 hfz9_1 hfz9_2 hfz9_3 hfz9_4 hfz9_5 hfz9_6 hfz9_7 hfz9_8
     try clear p2
     obtain ⟨kq, x22_11, rfl, HA, HJ11, BK180, HB⟩ := hcut
     cases kq with
     | zero => exact absurd HA.out (by simp [accountingref12_head.j1])
     | succ kj11 =>
      have H := HA.out
      clear HA
      simp only [accountingref12_head.j1] at H
      by_cases c18 : x22_11 = true
      ·subst c18
       have H1 : (some 7) = some r := by rw [if_pos rfl] at H; exact H
       clear H
       have H := H1
       clear H1
       obtain rfl := Option.some.inj H
       go_wp2
       go_ret
       exact ⟨ew_, bwx_⟩
      ·replace c18 := Bool.eq_false_iff.mpr c18
       subst c18
       have H1 : ((accountingref12_day.f a0_2).bind fun t183 => (if t183 = true then ((accountingref12_day.f a0_3).bind fun t184 => (accountingref12_head.j2 kj11 (!t184) a0_0 a0_1 a0_2 a0_3 a0_4 a0_5 a0_6 a0_7 l0_8)) else (accountingref12_head.j2 kj11 true a0_0 a0_1 a0_2 a0_3 a0_4 a0_5 a0_6 a0_7 l0_8))) = some r := by rw [if_neg (show ¬ (false = true) by decide)] at H; exact H
       clear H
       have H := H1
       clear H1
       have HC19 := Aside0.mk H
       clear H
       go_upto_region 5 with (fail)
       go_cut [33] (fun v33 wc => ∃ (kq : Nat) (x33_18 : Bool), v33 = .bool x33_18 ∧ Aside0 (accountingref12_head.j2 kq x33_18 a0_0 a0_1 a0_2 a0_3 a0_4 a0_5 a0_6 a0_7 l0_8 = some r) ∧ Aside0 (kq ≤ kj11) ∧ Aside0 (wc.heap[gb180]? = some (.cells #[.int .i64 a0_0, .string a0_1, .int .i64 a0_2, .int .i64 a0_3, .int .i64 a0_4, .string a0_5, .string a0_6, .int .i64 a0_7, (.slice A0_8 l0_8.length c0_8)] 29 (0, 0))) ∧ Aside0 (Below w.heap.size w wc))
       case first =>
        have H := HC19.out
        clear HC19
        replace H := Option.bind_eq_some_iff.mp H
        obtain ⟨t183, A200, H⟩ := H
        try dsimp only at H
        have A20 := Aside0.mk A200
        clear A200
        by_cases c21 : t183 = true
        rotate_left
        ·replace c21 := Bool.eq_false_iff.mpr c21
         subst c21
         have H1 : (accountingref12_head.j2 kj11 true a0_0 a0_1 a0_2 a0_3 a0_4 a0_5 a0_6 a0_7 l0_8) = some r := by rw [if_neg (show ¬ (false = true) by decide)] at H; exact H
         clear H
         have H := H1
         clear H1
         have H' := Aside0.mk H
         clear H
         obtain ⟨hcz24_0, hcz24_1, hcz24_2, hcz24_3, hcz24_4, hcz24_5, hcz24_6, hcz24_7, hcz24_8⟩ := bc9_ (w := wc) BK180.out
         obtain ⟨hfz24_0, hfz24_1, hfz24_2, hfz24_3, hfz24_4, hfz24_5, hfz24_6, hfz24_7, hfz24_8⟩ := bf9_ BK180.out
         go_wp2_with (first | ((with_reducible refine gate_callee (f := 138) rfl ?_); refine goesL_ (some 36) rfl rfl Tryd.func138 (by kernel_rfl) rfl #[.int .i64 a0_2] rfl ml_ ?_; (with_reducible refine (accountingref12_day.calls a0_2 false _ A20.out).mono ?_); rintro e w' ⟨rfl, ⟨nd, rfl⟩⟩; refine ⟨_, rfl, ?_⟩))
         go_meet
         case rel => exact ⟨_, (true), sm_, H', ⟨by have := HJ1.out; have := HJ11.out; first | omega | exact Nat.le_refl _⟩, ⟨by (with_reducible repeat (first | refine blk_drewN ?_ _ | refine blk_drew ?_ | refine blk_alloc ?_ _)); exact BK180.out⟩, ⟨bwx_⟩⟩
        subst c21
        have H1 : ((accountingref12_day.f a0_3).bind fun t184 => (accountingref12_head.j2 kj11 (!t184) a0_0 a0_1 a0_2 a0_3 a0_4 a0_5 a0_6 a0_7 l0_8)) = some r := by rw [if_pos rfl] at H; exact H
        clear H
        have H := H1
        clear H1
        replace H := Option.bind_eq_some_iff.mp H
        obtain ⟨t184, A220, H⟩ := H
        try dsimp only at H
        have A22 := Aside0.mk A220
        clear A220
        have H' := Aside0.mk H
        clear H
        obtain ⟨hcz23_0, hcz23_1, hcz23_2, hcz23_3, hcz23_4, hcz23_5, hcz23_6, hcz23_7, hcz23_8⟩ := bc9_ (w := wc) BK180.out
        obtain ⟨hfz23_0, hfz23_1, hfz23_2, hfz23_3, hfz23_4, hfz23_5, hfz23_6, hfz23_7, hfz23_8⟩ := bf9_ BK180.out
        go_wp2_with (first | ((with_reducible refine gate_callee (f := 138) rfl ?_); refine goesL_ (some 36) rfl rfl Tryd.func138 (by kernel_rfl) rfl #[.int .i64 a0_2] rfl ml_ ?_; (with_reducible refine (accountingref12_day.calls a0_2 true _ A20.out).mono ?_); rintro e w' ⟨rfl, ⟨nd, rfl⟩⟩; refine ⟨_, rfl, ?_⟩) | (go_at_call 138; (with_reducible refine (accountingref12_day.calls a0_3 t184 _ A22.out).mono ?_); rintro e w' ⟨rfl, ⟨nd, rfl⟩⟩))
        go_meet
        case rel => exact ⟨_, (!t184), sm_, H', ⟨by have := HJ1.out; have := HJ11.out; first | omega | exact Nat.le_refl _⟩, ⟨by (with_reducible repeat (first | refine blk_drewN ?_ _ | refine blk_drew ?_ | refine blk_alloc ?_ _)); exact BK180.out⟩, ⟨bwx_⟩⟩
       case rest =>
        clear HC19
        try clear c1
        try clear c2
        try clear p2
        try clear c4
        try clear c4b0
        try clear c6
        try clear c6b0
        try clear c8
        try clear c8b0
        try clear c10
        try clear c11
        try clear c13
        try clear c14
        try clear c18
        try clear c21
        try clear hcz10_0 hcz10_1 hcz10_2 hcz10_3 hcz10_4 hcz10_5 hcz10_6 hcz10_7 hcz10_8
        try clear hcz16_0 hcz16_1 hcz16_2 hcz16_3 hcz16_4 hcz16_5 hcz16_6 hcz16_7 hcz16_8
        try clear hcz17_0 hcz17_1 hcz17_2 hcz17_3 hcz17_4 hcz17_5 hcz17_6 hcz17_7 hcz17_8
        try clear hcz23_0 hcz23_1 hcz23_2 hcz23_3 hcz23_4 hcz23_5 hcz23_6 hcz23_7 hcz23_8
        try clear hcz24_0 hcz24_1 hcz24_2 hcz24_3 hcz24_4 hcz24_5 hcz24_6 hcz24_7 hcz24_8
        try clear hcz5_0 hcz5_1 hcz5_2 hcz5_3 hcz5_4 hcz5_5 hcz5_6 hcz5_7 hcz5_8
        try clear hcz7_0 hcz7_1 hcz7_2 hcz7_3 hcz7_4 hcz7_5 hcz7_6 hcz7_7 hcz7_8
        try clear hcz9_0 hcz9_1 hcz9_2 hcz9_3 hcz9_4 hcz9_5 hcz9_6 hcz9_7 hcz9_8
        try clear hfz10_0 hfz10_1 hfz10_2 hfz10_3 hfz10_4 hfz10_5 hfz10_6 hfz10_7 hfz10_8
        try clear hfz16_0 hfz16_1 hfz16_2 hfz16_3 hfz16_4 hfz16_5 hfz16_6 hfz16_7 hfz16_8
        try clear hfz17_0 hfz17_1 hfz17_2 hfz17_3 hfz17_4 hfz17_5 hfz17_6 hfz17_7 hfz17_8
        try clear hfz23_0 hfz23_1 hfz23_2 hfz23_3 hfz23_4 hfz23_5 hfz23_6 hfz23_7 hfz23_8
        try clear hfz24_0 hfz24_1 hfz24_2 hfz24_3 hfz24_4 hfz24_5 hfz24_6 hfz24_7 hfz24_8
        try clear hfz5_0 hfz5_1 hfz5_2 hfz5_3 hfz5_4 hfz5_5 hfz5_6 hfz5_7 hfz5_8
        try clear hfz7_0 hfz7_1 hfz7_2 hfz7_3 hfz7_4 hfz7_5 hfz7_6 hfz7_7 hfz7_8
        try clear hfz9_0 hfz9_1 hfz9_2 hfz9_3 hfz9_4 hfz9_5 hfz9_6 hfz9_7 hfz9_8
        try clear p2
        obtain ⟨kq, x33_18, rfl, HA, HJ18, BK180, HB⟩ := hcut
        cases kq with
        | zero => exact absurd HA.out (by simp [accountingref12_head.j2])
        | succ kj18 =>
         have H := HA.out
         clear HA
         simp only [accountingref12_head.j2] at H
         by_cases c25 : x33_18 = true
         ·subst c25
          have H1 : (some 11) = some r := by rw [if_pos rfl] at H; exact H
          clear H
          have H := H1
          clear H1
          obtain rfl := Option.some.inj H
          go_wp2
          go_ret
          exact ⟨ew_, bwx_⟩
         ·replace c25 := Bool.eq_false_iff.mpr c25
          subst c25
          have H1 : (if a0_4 < 1 then (accountingref12_head.j3 kj18 true a0_0 a0_1 a0_2 a0_3 a0_4 a0_5 a0_6 a0_7 l0_8) else (accountingref12_head.j3 kj18 (decide (a0_4 > 7)) a0_0 a0_1 a0_2 a0_3 a0_4 a0_5 a0_6 a0_7 l0_8)) = some r := by rw [if_neg (show ¬ (false = true) by decide)] at H; exact H
          clear H
          have H := H1
          clear H1
          have HC26 := Aside0.mk H
          clear H
          go_upto_region 7 with (fail)
          go_cut [44] (fun v44 wc => ∃ (kq : Nat) (x44_25 : Bool), v44 = .bool x44_25 ∧ Aside0 (accountingref12_head.j3 kq x44_25 a0_0 a0_1 a0_2 a0_3 a0_4 a0_5 a0_6 a0_7 l0_8 = some r) ∧ Aside0 (kq ≤ kj18) ∧ Aside0 (wc.heap[gb180]? = some (.cells #[.int .i64 a0_0, .string a0_1, .int .i64 a0_2, .int .i64 a0_3, .int .i64 a0_4, .string a0_5, .string a0_6, .int .i64 a0_7, (.slice A0_8 l0_8.length c0_8)] 29 (0, 0))) ∧ Aside0 (Below w.heap.size w wc))
          case first =>
           have H := HC26.out
           clear HC26
           by_cases c27 : a0_4 < 1
           ·rw [if_pos c27] at H
            have c27b0 : decide (a0_4 < 1) = true := decide_eq_true c27
            clear c27
            (first | rw [c27b0] | (simp only [i64_w, i32_w]; rw [c27b0]) | skip)
            have H' := Aside0.mk H
            clear H
            obtain ⟨hcz28_0, hcz28_1, hcz28_2, hcz28_3, hcz28_4, hcz28_5, hcz28_6, hcz28_7, hcz28_8⟩ := bc9_ (w := wc) BK180.out
            obtain ⟨hfz28_0, hfz28_1, hfz28_2, hfz28_3, hfz28_4, hfz28_5, hfz28_6, hfz28_7, hfz28_8⟩ := bf9_ BK180.out
            go_wp2
            go_meet
            case rel => exact ⟨_, (true), sm_, H', ⟨by have := HJ1.out; have := HJ11.out; have := HJ18.out; first | omega | exact Nat.le_refl _⟩, ⟨by (with_reducible repeat (first | refine blk_drewN ?_ _ | refine blk_drew ?_ | refine blk_alloc ?_ _)); exact BK180.out⟩, ⟨bwx_⟩⟩
           rw [if_neg c27] at H
           have c27b0 : decide (a0_4 < 1) = false := decide_eq_false c27
           clear c27
           (first | rw [c27b0] | (simp only [i64_w, i32_w]; rw [c27b0]) | skip)
           have H' := Aside0.mk H
           clear H
           obtain ⟨hcz29_0, hcz29_1, hcz29_2, hcz29_3, hcz29_4, hcz29_5, hcz29_6, hcz29_7, hcz29_8⟩ := bc9_ (w := wc) BK180.out
           obtain ⟨hfz29_0, hfz29_1, hfz29_2, hfz29_3, hfz29_4, hfz29_5, hfz29_6, hfz29_7, hfz29_8⟩ := bf9_ BK180.out
           go_wp2
           go_meet
           case rel => exact ⟨_, (decide (a0_4 > 7)), sm_, H', ⟨by have := HJ1.out; have := HJ11.out; have := HJ18.out; first | omega | exact Nat.le_refl _⟩, ⟨by (with_reducible repeat (first | refine blk_drewN ?_ _ | refine blk_drew ?_ | refine blk_alloc ?_ _)); exact BK180.out⟩, ⟨bwx_⟩⟩
          case rest =>
           clear HC26
           try clear c1
           try clear c2
           try clear p2
           try clear c4
           try clear c4b0
           try clear c6
           try clear c6b0
           try clear c8
           try clear c8b0
           try clear c10
           try clear c11
           try clear c13
           try clear c14
           try clear c18
           try clear c21
           try clear c25
           try clear c27
           try clear c27b0
           try clear hcz10_0 hcz10_1 hcz10_2 hcz10_3 hcz10_4 hcz10_5 hcz10_6 hcz10_7 hcz10_8
           try clear hcz16_0 hcz16_1 hcz16_2 hcz16_3 hcz16_4 hcz16_5 hcz16_6 hcz16_7 hcz16_8
           try clear hcz17_0 hcz17_1 hcz17_2 hcz17_3 hcz17_4 hcz17_5 hcz17_6 hcz17_7 hcz17_8
           try clear hcz23_0 hcz23_1 hcz23_2 hcz23_3 hcz23_4 hcz23_5 hcz23_6 hcz23_7 hcz23_8
           try clear hcz24_0 hcz24_1 hcz24_2 hcz24_3 hcz24_4 hcz24_5 hcz24_6 hcz24_7 hcz24_8
           try clear hcz28_0 hcz28_1 hcz28_2 hcz28_3 hcz28_4 hcz28_5 hcz28_6 hcz28_7 hcz28_8
           try clear hcz29_0 hcz29_1 hcz29_2 hcz29_3 hcz29_4 hcz29_5 hcz29_6 hcz29_7 hcz29_8
           try clear hcz5_0 hcz5_1 hcz5_2 hcz5_3 hcz5_4 hcz5_5 hcz5_6 hcz5_7 hcz5_8
           try clear hcz7_0 hcz7_1 hcz7_2 hcz7_3 hcz7_4 hcz7_5 hcz7_6 hcz7_7 hcz7_8
           try clear hcz9_0 hcz9_1 hcz9_2 hcz9_3 hcz9_4 hcz9_5 hcz9_6 hcz9_7 hcz9_8
           try clear hfz10_0 hfz10_1 hfz10_2 hfz10_3 hfz10_4 hfz10_5 hfz10_6 hfz10_7 hfz10_8
           try clear hfz16_0 hfz16_1 hfz16_2 hfz16_3 hfz16_4 hfz16_5 hfz16_6 hfz16_7 hfz16_8
           try clear hfz17_0 hfz17_1 hfz17_2 hfz17_3 hfz17_4 hfz17_5 hfz17_6 hfz17_7 hfz17_8
           try clear hfz23_0 hfz23_1 hfz23_2 hfz23_3 hfz23_4 hfz23_5 hfz23_6 hfz23_7 hfz23_8
           try clear hfz24_0 hfz24_1 hfz24_2 hfz24_3 hfz24_4 hfz24_5 hfz24_6 hfz24_7 hfz24_8
           try clear hfz28_0 hfz28_1 hfz28_2 hfz28_3 hfz28_4 hfz28_5 hfz28_6 hfz28_7 hfz28_8
           try clear hfz29_0 hfz29_1 hfz29_2 hfz29_3 hfz29_4 hfz29_5 hfz29_6 hfz29_7 hfz29_8
           try clear hfz5_0 hfz5_1 hfz5_2 hfz5_3 hfz5_4 hfz5_5 hfz5_6 hfz5_7 hfz5_8
           try clear hfz7_0 hfz7_1 hfz7_2 hfz7_3 hfz7_4 hfz7_5 hfz7_6 hfz7_7 hfz7_8
           try clear hfz9_0 hfz9_1 hfz9_2 hfz9_3 hfz9_4 hfz9_5 hfz9_6 hfz9_7 hfz9_8
           try clear p2
           obtain ⟨kq, x44_25, rfl, HA, HJ25, BK180, HB⟩ := hcut
           cases kq with
           | zero => exact absurd HA.out (by simp [accountingref12_head.j3])
           | succ kj25 =>
            have H := HA.out
            clear HA
            simp only [accountingref12_head.j3] at H
            by_cases c30 : x44_25 = true
            ·subst c30
             have H1 : (some 10) = some r := by rw [if_pos rfl] at H; exact H
             clear H
             have H := H1
             clear H1
             obtain rfl := Option.some.inj H
             go_wp2
             go_ret
             exact ⟨ew_, bwx_⟩
            ·replace c30 := Bool.eq_false_iff.mpr c30
             subst c30
             have H1 : ((accountingref06_Plain.f kj25 a0_5).bind fun t185 => (if t185 = true then (if (l0_8.length : Int) < 2 then (some 2) else (if (l0_8.length : Int) > 100 then (some 9) else (some 0))) else (some 5))) = some r := by rw [if_neg (show ¬ (false = true) by decide)] at H; exact H
             clear H
             have H := H1
             clear H1
             replace H := Option.bind_eq_some_iff.mp H
             obtain ⟨t185, A310, H⟩ := H
             try dsimp only at H
             have A31 := Aside0.mk A310
             clear A310
             by_cases c32 : t185 = true
             ·subst c32
              have H1 : (if (l0_8.length : Int) < 2 then (some 2) else (if (l0_8.length : Int) > 100 then (some 9) else (some 0))) = some r := by rw [if_pos rfl] at H; exact H
              clear H
              have H := H1
              clear H1
              by_cases c33 : (l0_8.length : Int) < 2
              ·rw [if_pos c33] at H
               have c33b0 : decide ((l0_8.length : Int) < 2) = true := decide_eq_true c33
               have c33b1 : decide (l0_8.length < 2) = true := decide_eq_true (by omega)
               clear c33
               obtain rfl := Option.some.inj H
               obtain ⟨hcz34_0, hcz34_1, hcz34_2, hcz34_3, hcz34_4, hcz34_5, hcz34_6, hcz34_7, hcz34_8⟩ := bc9_ (w := wc) BK180.out
               obtain ⟨hfz34_0, hfz34_1, hfz34_2, hfz34_3, hfz34_4, hfz34_5, hfz34_6, hfz34_7, hfz34_8⟩ := bf9_ BK180.out
               go_wp2_with (first | ((with_reducible refine gate_callee (f := 139) rfl ?_); refine goesL_ (some 56) rfl rfl Tryd.func139 (by kernel_rfl) rfl #[.string a0_5] rfl ml_ ?_; (with_reducible refine (accountingref06_Plain.calls kj25 a0_5 true _ A31.out).mono ?_); rintro e w' ⟨rfl, ⟨nd, rfl⟩⟩; refine ⟨_, rfl, ?_⟩))
               go_ret
               exact ⟨ew_, bwx_⟩
              rw [if_neg c33] at H
              have c33b0 : decide ((l0_8.length : Int) < 2) = false := decide_eq_false c33
              have c33b1 : decide (l0_8.length < 2) = false := decide_eq_false (by omega)
              clear c33
              by_cases c35 : (l0_8.length : Int) > 100
              ·rw [if_pos c35] at H
               have c35b0 : decide (100 < (l0_8.length : Int)) = true := decide_eq_true c35
               have c35b1 : decide (100 < l0_8.length) = true := decide_eq_true (by omega)
               clear c35
               obtain rfl := Option.some.inj H
               obtain ⟨hcz36_0, hcz36_1, hcz36_2, hcz36_3, hcz36_4, hcz36_5, hcz36_6, hcz36_7, hcz36_8⟩ := bc9_ (w := wc) BK180.out
               obtain ⟨hfz36_0, hfz36_1, hfz36_2, hfz36_3, hfz36_4, hfz36_5, hfz36_6, hfz36_7, hfz36_8⟩ := bf9_ BK180.out
               go_wp2_with (first | ((with_reducible refine gate_callee (f := 139) rfl ?_); refine goesL_ (some 56) rfl rfl Tryd.func139 (by kernel_rfl) rfl #[.string a0_5] rfl ml_ ?_; (with_reducible refine (accountingref06_Plain.calls kj25 a0_5 true _ A31.out).mono ?_); rintro e w' ⟨rfl, ⟨nd, rfl⟩⟩; refine ⟨_, rfl, ?_⟩))
               go_ret
               exact ⟨ew_, bwx_⟩
              rw [if_neg c35] at H
              have c35b0 : decide (100 < (l0_8.length : Int)) = false := decide_eq_false c35
              have c35b1 : decide (100 < l0_8.length) = false := decide_eq_false (by omega)
              clear c35
              obtain rfl := Option.some.inj H
              obtain ⟨hcz37_0, hcz37_1, hcz37_2, hcz37_3, hcz37_4, hcz37_5, hcz37_6, hcz37_7, hcz37_8⟩ := bc9_ (w := wc) BK180.out
              obtain ⟨hfz37_0, hfz37_1, hfz37_2, hfz37_3, hfz37_4, hfz37_5, hfz37_6, hfz37_7, hfz37_8⟩ := bf9_ BK180.out
              go_wp2_with (first | ((with_reducible refine gate_callee (f := 139) rfl ?_); refine goesL_ (some 56) rfl rfl Tryd.func139 (by kernel_rfl) rfl #[.string a0_5] rfl ml_ ?_; (with_reducible refine (accountingref06_Plain.calls kj25 a0_5 true _ A31.out).mono ?_); rintro e w' ⟨rfl, ⟨nd, rfl⟩⟩; refine ⟨_, rfl, ?_⟩))
              go_ret
              exact ⟨ew_, bwx_⟩
             ·replace c32 := Bool.eq_false_iff.mpr c32
              subst c32
              have H1 : (some 5) = some r := by rw [if_neg (show ¬ (false = true) by decide)] at H; exact H
              clear H
              have H := H1
              clear H1
              obtain rfl := Option.some.inj H
              obtain ⟨hcz38_0, hcz38_1, hcz38_2, hcz38_3, hcz38_4, hcz38_5, hcz38_6, hcz38_7, hcz38_8⟩ := bc9_ (w := wc) BK180.out
              obtain ⟨hfz38_0, hfz38_1, hfz38_2, hfz38_3, hfz38_4, hfz38_5, hfz38_6, hfz38_7, hfz38_8⟩ := bf9_ BK180.out
              go_wp2_with (first | ((with_reducible refine gate_callee (f := 139) rfl ?_); refine goesL_ (some 56) rfl rfl Tryd.func139 (by kernel_rfl) rfl #[.string a0_5] rfl ml_ ?_; (with_reducible refine (accountingref06_Plain.calls kj25 a0_5 false _ A31.out).mono ?_); rintro e w' ⟨rfl, ⟨nd, rfl⟩⟩; refine ⟨_, rfl, ?_⟩))
              go_ret
              exact ⟨ew_, bwx_⟩
def accountingref07_Code.l0 : Nat → ByteArray → Int → Option (Bool)
 | 0, _, _ => none
 | k + 1, x0, x3 => if x3 < 3 then (if 0 ≤ x3 then (if x3 < (x0.size : Int) then (if (bt x0 x3) < 65 then (some false) else (if (bt x0 x3) > 90 then (some false) else (accountingref07_Code.l0 k x0 (wrap64 (x3 + 1))))) else (none)) else (none)) else (some true)
def accountingref07_Code.f (k : Nat) (a0 : ByteArray) : Option (Bool) := if (a0.size : Int) = 3 then (accountingref07_Code.l0 k a0 0) else (some false)
set_option maxHeartbeats 8000000 in
set_option maxRecDepth 100000 in
theorem accountingref07_Code.calls (k : Nat) (a0 : ByteArray) (r : Bool) (w : World) (h : accountingref07_Code.f k a0 = some r) :
  Calls Tryd.prog 114 #[.string a0] w fun e w' => e = .returned (.bool r) ∧ Drawn0 w w' := by
 have H : (if (a0.size : Int) = 3 then (accountingref07_Code.l0 k a0 0) else (some false)) = some r := h
 clear h
 by_cases c2 : (a0.size : Int) = 3
 ·rw [if_pos c2] at H
  have c2b0 : ((a0.size : Int) == 3) = true := beq_iff_eq.mpr c2
  have c2b1 : ((a0.size : Int) != 3) = false := bne_eq_false_iff_eq.mpr c2
  clear c2
  have H' := Aside0.mk H
  clear H
  go_enter Tryd.func114, Tryd.ntmps114
  go_wp2
  go_loopg [3] k (fun kq v3 w' => ∃ (x3_1 : Int), v3 = .int .i64 x3_1 ∧ Aside0 (accountingref07_Code.l0 kq a0 x3_1 = some r) ∧ Aside0 (kq ≤ k) ∧ Drawn0 w w')
  case atStart => exact ⟨(0), sm_, H', ⟨Nat.le_refl _⟩, by repeat (first | exact Drawn0.refl _ | apply Drawn0.step)⟩
  case round =>
   clear H'
   try clear c1
   try clear c2
   try clear c2b0
   try clear c2b1
   try clear p2
   obtain ⟨x3_1, rfl, HA, HK1, ⟨m1, rfl⟩⟩ := hrel
   cases gk with
   | zero => exact absurd HA.out (by simp [accountingref07_Code.l0])
   | succ k1 =>
    have H := HA.out
    clear HA
    simp only [accountingref07_Code.l0] at H
    by_cases c3 : x3_1 < 3
    rotate_left
    ·rw [if_neg c3] at H
     have c3b0 : decide (x3_1 < 3) = false := decide_eq_false c3
     clear c3
     obtain rfl := Option.some.inj H
     go_wp2
     go_ret
     exact ⟨by first | rfl | (simp; done) | (simp [*]; done), by repeat (first | exact Drawn0.refl _ | apply Drawn0.step)⟩
    rw [if_pos c3] at H
    have c3b0 : decide (x3_1 < 3) = true := decide_eq_true c3
    clear c3
    by_cases c4 : 0 ≤ x3_1
    rotate_left
    ·rw [if_neg c4] at H
     exact absurd H (by simp)
    rw [if_pos c4] at H
    have c4b0 : decide (0 ≤ x3_1) = true := decide_eq_true c4
    clear c4
    by_cases c5 : x3_1 < (a0.size : Int)
    rotate_left
    ·rw [if_neg c5] at H
     exact absurd H (by simp)
    rw [if_pos c5] at H
    have c5b0 : decide (x3_1 < (a0.size : Int)) = true := decide_eq_true c5
    clear c5
    by_cases c7 : (bt a0 x3_1) < 65
    ·rw [if_pos c7] at H
     have c7b0 : decide ((bt a0 x3_1) < 65) = true := decide_eq_true c7
     clear c7
     obtain rfl := Option.some.inj H
     have p6 : 0 ≤ (x3_1 : Int) := odt_
     have q6 : x3_1 < (a0.size : Int) := odt_
     have hx6 := bt_at a0 x3_1
     replace p6 := eq_true p6
     replace q6 := eq_true q6
     go_wp2
     go_ret
     exact ⟨by first | rfl | (simp; done) | (simp [*]; done), by repeat (first | exact Drawn0.refl _ | apply Drawn0.step)⟩
    rw [if_neg c7] at H
    have c7b0 : decide ((bt a0 x3_1) < 65) = false := decide_eq_false c7
    clear c7
    by_cases c9 : (bt a0 x3_1) > 90
    ·rw [if_pos c9] at H
     have c9b0 : decide (90 < (bt a0 x3_1)) = true := decide_eq_true c9
     clear c9
     obtain rfl := Option.some.inj H
     have p6 : 0 ≤ (x3_1 : Int) := odt_
     have q6 : x3_1 < (a0.size : Int) := odt_
     have hx6 := bt_at a0 x3_1
     replace p6 := eq_true p6
     replace q6 := eq_true q6
     have p8 : 0 ≤ (x3_1 : Int) := odt_
     have q8 : x3_1 < (a0.size : Int) := odt_
     have hx8 := bt_at a0 x3_1
     replace p8 := eq_true p8
     replace q8 := eq_true q8
     go_wp2
     go_ret
     exact ⟨by first | rfl | (simp; done) | (simp [*]; done), by repeat (first | exact Drawn0.refl _ | apply Drawn0.step)⟩
    rw [if_neg c9] at H
    have c9b0 : decide (90 < (bt a0 x3_1)) = false := decide_eq_false c9
    clear c9
    have H' := Aside0.mk H
    clear H
    have p6 : 0 ≤ (x3_1 : Int) := odt_
    have q6 : x3_1 < (a0.size : Int) := odt_
    have hx6 := bt_at a0 x3_1
    replace p6 := eq_true p6
    replace q6 := eq_true q6
    have p8 : 0 ≤ (x3_1 : Int) := odt_
    have q8 : x3_1 < (a0.size : Int) := odt_
    have hx8 := bt_at a0 x3_1
    replace p8 := eq_true p8
    replace q8 := eq_true q8
    go_wp2
    go_roundg k1
    case measure => have := HK1.out; omega
    case rel => exact ⟨(wrap64 (x3_1 + 1)), sm_, H', ⟨by have := HK1.out; omega⟩, by repeat (first | exact Drawn0.refl _ | apply Drawn0.step)⟩
 ·rw [if_neg c2] at H
  have c2b0 : ((a0.size : Int) == 3) = false := beq_eq_false_iff_ne.mpr c2
  have c2b1 : ((a0.size : Int) != 3) = true := bne_iff_ne.mpr c2
  obtain rfl := Option.some.inj H
  go_enter Tryd.func114, Tryd.ntmps114
  go_wp2
  go_ret
  exact ⟨by first | rfl | (simp; done) | (simp [*]; done), by repeat (first | exact Drawn0.refl _ | apply Drawn0.step)⟩
mutual
def accountingref12_Line.j0 : Nat → Bool → ByteArray → ByteArray → Int → Int → ByteArray → ByteArray → List (S213) → Option (Int)
 | 0, _, _, _, _, _, _, _, _ => none
 | k + 1, x3, x195000, x195001, x195002, x195003, x195004, x195005, x195006 => if x3 = true then (some 7) else ((accountingref07_Code.f k x195001).bind fun t198 => (if t198 = true then ((accountingref12_within.f x195002 1000000000000).bind fun t199 => (if t199 = true then ((accountingref12_within.f x195003 1000000000000).bind fun t200 => (accountingref12_Line.j1 k (!t200) x195000 x195001 x195002 x195003 x195004 x195005 x195006)) else (accountingref12_Line.j1 k true x195000 x195001 x195002 x195003 x195004 x195005 x195006))) else (some 13)))
def accountingref12_Line.j1 : Nat → Bool → ByteArray → ByteArray → Int → Int → ByteArray → ByteArray → List (S213) → Option (Int)
 | 0, _, _, _, _, _, _, _, _ => none
 | k + 1, x25, x195000, x195001, x195002, x195003, x195004, x195005, x195006 => if x25 = true then (some 4) else (if x195002 = 0 then (accountingref12_Line.j2 k (x195003 == 0) x195000 x195001 x195002 x195003 x195004 x195005 x195006) else (accountingref12_Line.j2 k false x195000 x195001 x195002 x195003 x195004 x195005 x195006))
def accountingref12_Line.j2 : Nat → Bool → ByteArray → ByteArray → Int → Int → ByteArray → ByteArray → List (S213) → Option (Int)
 | 0, _, _, _, _, _, _, _, _ => none
 | k + 1, x36, x195000, x195001, x195002, x195003, x195004, x195005, x195006 => if x36 = true then (some 2) else ((accountingref09_Right.f k x195006).bind fun t201 => (if t201 = true then (some 0) else (some 14)))
end
def accountingref12_Line.f (k : Nat) (a0_0 : ByteArray) (a0_1 : ByteArray) (a0_2 : Int) (a0_3 : Int) (a0_4 : ByteArray) (a0_5 : ByteArray) (l0_6 : List (S213)) : Option (Int) := (accountingref06_Code.f k a0_0).bind fun t195 => (if t195 = true then ((accountingref12_optional.f k a0_4).bind fun t196 => (if t196 = true then ((accountingref12_optional.f k a0_5).bind fun t197 => (accountingref12_Line.j0 k (!t197) a0_0 a0_1 a0_2 a0_3 a0_4 a0_5 l0_6)) else (accountingref12_Line.j0 k true a0_0 a0_1 a0_2 a0_3 a0_4 a0_5 l0_6))) else (accountingref12_Line.j0 k true a0_0 a0_1 a0_2 a0_3 a0_4 a0_5 l0_6))
set_option maxHeartbeats 8000000 in
set_option maxRecDepth 100000 in
theorem accountingref12_Line.calls (k : Nat) (a0_0 : ByteArray) (a0_1 : ByteArray) (a0_2 : Int) (a0_3 : Int) (a0_4 : ByteArray) (a0_5 : ByteArray) (A0_6 : Option Addr) (c0_6 : Nat) (l0_6 : List (S213)) (r : Int) (w : World) (hr0_6 : Kd.C k213 w A0_6 l0_6.length l0_6) (hc0_6 : l0_6.length ≤ c0_6) (h : accountingref12_Line.f k a0_0 a0_1 a0_2 a0_3 a0_4 a0_5 l0_6 = some r) :
  Calls Tryd.prog 101 #[.agg #[.string a0_0, .string a0_1, .int .i64 a0_2, .int .i64 a0_3, .string a0_4, .string a0_5, .slice A0_6 l0_6.length c0_6]] w fun e w' => e = .returned (.int .i64 r) ∧ Below w.heap.size w w' := by
 have hu109 := Tryd.underlying109
 have HR0_6 := Aside0.mk hr0_6
 have HC0_6 := Aside0.mk hc0_6
 clear hr0_6 hc0_6
 have HB := Aside0.mk (Below.refl w.heap.size w)
 have H : ((accountingref06_Code.f k a0_0).bind fun t195 => (if t195 = true then ((accountingref12_optional.f k a0_4).bind fun t196 => (if t196 = true then ((accountingref12_optional.f k a0_5).bind fun t197 => (accountingref12_Line.j0 k (!t197) a0_0 a0_1 a0_2 a0_3 a0_4 a0_5 l0_6)) else (accountingref12_Line.j0 k true a0_0 a0_1 a0_2 a0_3 a0_4 a0_5 l0_6))) else (accountingref12_Line.j0 k true a0_0 a0_1 a0_2 a0_3 a0_4 a0_5 l0_6))) = some r := h
 clear h
 have HC2 := Aside0.mk H
 clear H
 go_enter Tryd.func101, Tryd.ntmps101
 go_upto_region 1 with (first | ((with_reducible refine gate_dst (N := 1) rfl ?_); refine box_event ?hg (N := 1) ?hd (cs := #[.string a0_0, .string a0_1, .int .i64 a0_2, .int .i64 a0_3, .string a0_4, .string a0_5, .slice A0_6 l0_6.length c0_6]) (t := 109) ?hr ?_; (case hd => rfl); (case hg => rfl); (case hr => first | (go_simp; done) | (go_simp; rfl)); intro gb194 hg w3 hbox hb; have n0_ := Aside0.mk (below_step (bw_) hb); have n1_ := Aside0.mk (hbox); have n2_ := Aside0.mk (gw_ (w := w) hg); have n3_ := Aside0.mk (gw_ (w := w) hg); clear HB; have HB := n0_; have BK194 := n1_; have GW194 := n2_; have GE194 := n3_; clear n0_ n1_ n2_ n3_; clear hb hbox hg))
 (try simp only [Act.put, List.setIfInBounds_toArray, List.set_cons_zero, List.set_cons_succ])
 go_cut [3] (fun v3 wc => ∃ (kq : Nat) (x3_1 : Bool), v3 = .bool x3_1 ∧ Aside0 (accountingref12_Line.j0 kq x3_1 a0_0 a0_1 a0_2 a0_3 a0_4 a0_5 l0_6 = some r) ∧ Aside0 (kq ≤ k) ∧ Aside0 (wc.heap[gb194]? = some (.cells #[.string a0_0, .string a0_1, .int .i64 a0_2, .int .i64 a0_3, .string a0_4, .string a0_5, (.slice A0_6 l0_6.length c0_6)] 109 (0, 0))) ∧ Aside0 (Below w.heap.size w wc))
 case first =>
  have H := HC2.out
  clear HC2
  replace H := Option.bind_eq_some_iff.mp H
  obtain ⟨t195, A40, H⟩ := H
  try dsimp only at H
  have A4 := Aside0.mk A40
  clear A40
  by_cases c5 : t195 = true
  rotate_left
  ·replace c5 := Bool.eq_false_iff.mpr c5
   subst c5
   have H1 : (accountingref12_Line.j0 k true a0_0 a0_1 a0_2 a0_3 a0_4 a0_5 l0_6) = some r := by rw [if_neg (show ¬ (false = true) by decide)] at H; exact H
   clear H
   have H := H1
   clear H1
   have H' := Aside0.mk H
   clear H
   obtain ⟨hcz11_0, hcz11_1, hcz11_2, hcz11_3, hcz11_4, hcz11_5, hcz11_6⟩ := bc7_ (w := w3) BK194.out
   obtain ⟨hfz11_0, hfz11_1, hfz11_2, hfz11_3, hfz11_4, hfz11_5, hfz11_6⟩ := bf7_ BK194.out
   go_wp2_with (first | ((with_reducible refine gate_callee (f := 113) rfl ?_); refine goesL_ (some 6) rfl rfl Tryd.func113 (by kernel_rfl) rfl #[.string a0_0] rfl ml_ ?_; (with_reducible refine (accountingref06_Code.calls k a0_0 false _ A4.out).mono ?_); rintro e w' ⟨rfl, ⟨nd, rfl⟩⟩; refine ⟨_, rfl, ?_⟩))
   go_meet
   case rel => exact ⟨_, (true), sm_, H', ⟨by first | omega | exact Nat.le_refl _⟩, ⟨by (with_reducible repeat (first | refine blk_drewN ?_ _ | refine blk_drew ?_ | refine blk_alloc ?_ _)); exact BK194.out⟩, ⟨bwx_⟩⟩
  subst c5
  have H1 : ((accountingref12_optional.f k a0_4).bind fun t196 => (if t196 = true then ((accountingref12_optional.f k a0_5).bind fun t197 => (accountingref12_Line.j0 k (!t197) a0_0 a0_1 a0_2 a0_3 a0_4 a0_5 l0_6)) else (accountingref12_Line.j0 k true a0_0 a0_1 a0_2 a0_3 a0_4 a0_5 l0_6))) = some r := by rw [if_pos rfl] at H; exact H
  clear H
  have H := H1
  clear H1
  replace H := Option.bind_eq_some_iff.mp H
  obtain ⟨t196, A60, H⟩ := H
  try dsimp only at H
  have A6 := Aside0.mk A60
  clear A60
  by_cases c7 : t196 = true
  rotate_left
  ·replace c7 := Bool.eq_false_iff.mpr c7
   subst c7
   have H1 : (accountingref12_Line.j0 k true a0_0 a0_1 a0_2 a0_3 a0_4 a0_5 l0_6) = some r := by rw [if_neg (show ¬ (false = true) by decide)] at H; exact H
   clear H
   have H := H1
   clear H1
   have H' := Aside0.mk H
   clear H
   obtain ⟨hcz10_0, hcz10_1, hcz10_2, hcz10_3, hcz10_4, hcz10_5, hcz10_6⟩ := bc7_ (w := w3) BK194.out
   obtain ⟨hfz10_0, hfz10_1, hfz10_2, hfz10_3, hfz10_4, hfz10_5, hfz10_6⟩ := bf7_ BK194.out
   go_wp2_with (first | ((with_reducible refine gate_callee (f := 113) rfl ?_); refine goesL_ (some 6) rfl rfl Tryd.func113 (by kernel_rfl) rfl #[.string a0_0] rfl ml_ ?_; (with_reducible refine (accountingref06_Code.calls k a0_0 true _ A4.out).mono ?_); rintro e w' ⟨rfl, ⟨nd, rfl⟩⟩; refine ⟨_, rfl, ?_⟩) | (go_at_call 140; (with_reducible refine (accountingref12_optional.calls k a0_4 false _ A6.out).mono ?_); rintro e w' ⟨rfl, ⟨nd, rfl⟩⟩))
   go_meet
   case rel => exact ⟨_, (true), sm_, H', ⟨by first | omega | exact Nat.le_refl _⟩, ⟨by (with_reducible repeat (first | refine blk_drewN ?_ _ | refine blk_drew ?_ | refine blk_alloc ?_ _)); exact BK194.out⟩, ⟨bwx_⟩⟩
  subst c7
  have H1 : ((accountingref12_optional.f k a0_5).bind fun t197 => (accountingref12_Line.j0 k (!t197) a0_0 a0_1 a0_2 a0_3 a0_4 a0_5 l0_6)) = some r := by rw [if_pos rfl] at H; exact H
  clear H
  have H := H1
  clear H1
  replace H := Option.bind_eq_some_iff.mp H
  obtain ⟨t197, A80, H⟩ := H
  replace H : (accountingref12_Line.j0 k (!t197) a0_0 a0_1 a0_2 a0_3 a0_4 a0_5 l0_6) = some r := H
  have A8 := Aside0.mk A80
  clear A80
  have H' := Aside0.mk H
  clear H
  obtain ⟨hcz9_0, hcz9_1, hcz9_2, hcz9_3, hcz9_4, hcz9_5, hcz9_6⟩ := bc7_ (w := w3) BK194.out
  obtain ⟨hfz9_0, hfz9_1, hfz9_2, hfz9_3, hfz9_4, hfz9_5, hfz9_6⟩ := bf7_ BK194.out
  go_wp2_with (first | ((with_reducible refine gate_callee (f := 113) rfl ?_); refine goesL_ (some 6) rfl rfl Tryd.func113 (by kernel_rfl) rfl #[.string a0_0] rfl ml_ ?_; (with_reducible refine (accountingref06_Code.calls k a0_0 true _ A4.out).mono ?_); rintro e w' ⟨rfl, ⟨nd, rfl⟩⟩; refine ⟨_, rfl, ?_⟩) | (go_at_call 140; (with_reducible refine (accountingref12_optional.calls k a0_4 true _ A6.out).mono ?_); rintro e w' ⟨rfl, ⟨nd, rfl⟩⟩) | (go_at_call 140; (with_reducible refine (accountingref12_optional.calls k a0_5 t197 _ A8.out).mono ?_); rintro e w' ⟨rfl, ⟨nd, rfl⟩⟩))
  go_meet
  case rel => exact ⟨_, (!t197), sm_, H', ⟨by first | omega | exact Nat.le_refl _⟩, ⟨by (with_reducible repeat (first | refine blk_drewN ?_ _ | refine blk_drew ?_ | refine blk_alloc ?_ _)); exact BK194.out⟩, ⟨bwx_⟩⟩
 case rest =>
  clear HC2
  try clear c1
  try clear p2
  try clear c5
  try clear c7
  try clear c10
  try clear c11
  try clear hcz10_0 hcz10_1 hcz10_2 hcz10_3 hcz10_4 hcz10_5 hcz10_6
  try clear hcz11_0 hcz11_1 hcz11_2 hcz11_3 hcz11_4 hcz11_5 hcz11_6
  try clear hcz9_0 hcz9_1 hcz9_2 hcz9_3 hcz9_4 hcz9_5 hcz9_6
  try clear hfz10_0 hfz10_1 hfz10_2 hfz10_3 hfz10_4 hfz10_5 hfz10_6
  try clear hfz11_0 hfz11_1 hfz11_2 hfz11_3 hfz11_4 hfz11_5 hfz11_6
  try clear hfz9_0 hfz9_1 hfz9_2 hfz9_3 hfz9_4 hfz9_5 hfz9_6
  obtain ⟨kq, x3_1, rfl, HA, HJ1, BK194, HB⟩ := hcut
  cases kq with
  | zero => exact absurd HA.out (by simp [accountingref12_Line.j0])
  | succ kj1 =>
   have H := HA.out
   clear HA
   simp only [accountingref12_Line.j0] at H
   by_cases c12 : x3_1 = true
   ·subst c12
    have H1 : (some 7) = some r := by rw [if_pos rfl] at H; exact H
    clear H
    have H := H1
    clear H1
    obtain rfl := Option.some.inj H
    go_wp2
    go_ret
    exact ⟨ew_, bwx_⟩
   ·replace c12 := Bool.eq_false_iff.mpr c12
    subst c12
    have H1 : ((accountingref07_Code.f kj1 a0_1).bind fun t198 => (if t198 = true then ((accountingref12_within.f a0_2 1000000000000).bind fun t199 => (if t199 = true then ((accountingref12_within.f a0_3 1000000000000).bind fun t200 => (accountingref12_Line.j1 kj1 (!t200) a0_0 a0_1 a0_2 a0_3 a0_4 a0_5 l0_6)) else (accountingref12_Line.j1 kj1 true a0_0 a0_1 a0_2 a0_3 a0_4 a0_5 l0_6))) else (some 13))) = some r := by rw [if_neg (show ¬ (false = true) by decide)] at H; exact H
    clear H
    have H := H1
    clear H1
    replace H := Option.bind_eq_some_iff.mp H
    obtain ⟨t198, A130, H⟩ := H
    try dsimp only at H
    have A13 := Aside0.mk A130
    clear A130
    by_cases c14 : t198 = true
    ·subst c14
     have H1 : ((accountingref12_within.f a0_2 1000000000000).bind fun t199 => (if t199 = true then ((accountingref12_within.f a0_3 1000000000000).bind fun t200 => (accountingref12_Line.j1 kj1 (!t200) a0_0 a0_1 a0_2 a0_3 a0_4 a0_5 l0_6)) else (accountingref12_Line.j1 kj1 true a0_0 a0_1 a0_2 a0_3 a0_4 a0_5 l0_6))) = some r := by rw [if_pos rfl] at H; exact H
     clear H
     have H := H1
     clear H1
     have HC15 := Aside0.mk H
     clear H
     obtain ⟨hcz16_0, hcz16_1, hcz16_2, hcz16_3, hcz16_4, hcz16_5, hcz16_6⟩ := bc7_ (w := wc) BK194.out
     obtain ⟨hfz16_0, hfz16_1, hfz16_2, hfz16_3, hfz16_4, hfz16_5, hfz16_6⟩ := bf7_ BK194.out
     go_upto_region 5 with (first | ((with_reducible refine gate_callee (f := 114) rfl ?_); refine goesL_ (some 23) rfl rfl Tryd.func114 (by kernel_rfl) rfl #[.string a0_1] rfl ml_ ?_; (with_reducible refine (accountingref07_Code.calls kj1 a0_1 true _ A13.out).mono ?_); rintro e w' ⟨rfl, ⟨nd, rfl⟩⟩; refine ⟨_, rfl, ?_⟩))
     (try simp only [Act.put, List.setIfInBounds_toArray, List.set_cons_zero, List.set_cons_succ])
     go_cut [25] (fun v25 wc => ∃ (kq : Nat) (x25_14 : Bool), v25 = .bool x25_14 ∧ Aside0 (accountingref12_Line.j1 kq x25_14 a0_0 a0_1 a0_2 a0_3 a0_4 a0_5 l0_6 = some r) ∧ Aside0 (kq ≤ kj1) ∧ Aside0 (wc.heap[gb194]? = some (.cells #[.string a0_0, .string a0_1, .int .i64 a0_2, .int .i64 a0_3, .string a0_4, .string a0_5, (.slice A0_6 l0_6.length c0_6)] 109 (0, 0))) ∧ Aside0 (Below w.heap.size w wc))
     case first =>
      have H := HC15.out
      clear HC15
      replace H := Option.bind_eq_some_iff.mp H
      obtain ⟨t199, A170, H⟩ := H
      try dsimp only at H
      have A17 := Aside0.mk A170
      clear A170
      by_cases c18 : t199 = true
      rotate_left
      ·replace c18 := Bool.eq_false_iff.mpr c18
       subst c18
       have H1 : (accountingref12_Line.j1 kj1 true a0_0 a0_1 a0_2 a0_3 a0_4 a0_5 l0_6) = some r := by rw [if_neg (show ¬ (false = true) by decide)] at H; exact H
       clear H
       have H := H1
       clear H1
       have H' := Aside0.mk H
       clear H
       obtain ⟨hcz21_0, hcz21_1, hcz21_2, hcz21_3, hcz21_4, hcz21_5, hcz21_6⟩ := bc7_ (w := wc) BK194.out
       obtain ⟨hfz21_0, hfz21_1, hfz21_2, hfz21_3, hfz21_4, hfz21_5, hfz21_6⟩ := bf7_ BK194.out
       go_wp2_with (first | ((with_reducible refine gate_callee (f := 141) rfl ?_); refine goesL_ (some 28) rfl rfl Tryd.func141 (by kernel_rfl) rfl #[.int .i64 a0_2, .int .i64 1000000000000] rfl ml_ ?_; (with_reducible refine (accountingref12_within.calls a0_2 1000000000000 false _ A17.out).mono ?_); rintro e w' ⟨rfl, ⟨nd, rfl⟩⟩; refine ⟨_, rfl, ?_⟩))
       go_meet
       case rel => exact ⟨_, (true), sm_, H', ⟨by have := HJ1.out; first | omega | exact Nat.le_refl _⟩, ⟨by (with_reducible repeat (first | refine blk_drewN ?_ _ | refine blk_drew ?_ | refine blk_alloc ?_ _)); exact BK194.out⟩, ⟨bwx_⟩⟩
      subst c18
      have H1 : ((accountingref12_within.f a0_3 1000000000000).bind fun t200 => (accountingref12_Line.j1 kj1 (!t200) a0_0 a0_1 a0_2 a0_3 a0_4 a0_5 l0_6)) = some r := by rw [if_pos rfl] at H; exact H
      clear H
      have H := H1
      clear H1
      replace H := Option.bind_eq_some_iff.mp H
      obtain ⟨t200, A190, H⟩ := H
      replace H : (accountingref12_Line.j1 kj1 (!t200) a0_0 a0_1 a0_2 a0_3 a0_4 a0_5 l0_6) = some r := H
      have A19 := Aside0.mk A190
      clear A190
      have H' := Aside0.mk H
      clear H
      obtain ⟨hcz20_0, hcz20_1, hcz20_2, hcz20_3, hcz20_4, hcz20_5, hcz20_6⟩ := bc7_ (w := wc) BK194.out
      obtain ⟨hfz20_0, hfz20_1, hfz20_2, hfz20_3, hfz20_4, hfz20_5, hfz20_6⟩ := bf7_ BK194.out
      go_wp2_with (first | ((with_reducible refine gate_callee (f := 141) rfl ?_); refine goesL_ (some 28) rfl rfl Tryd.func141 (by kernel_rfl) rfl #[.int .i64 a0_2, .int .i64 1000000000000] rfl ml_ ?_; (with_reducible refine (accountingref12_within.calls a0_2 1000000000000 true _ A17.out).mono ?_); rintro e w' ⟨rfl, ⟨nd, rfl⟩⟩; refine ⟨_, rfl, ?_⟩) | (go_at_call 141; (with_reducible refine (accountingref12_within.calls a0_3 1000000000000 t200 _ A19.out).mono ?_); rintro e w' ⟨rfl, ⟨nd, rfl⟩⟩))
      go_meet
      case rel => exact ⟨_, (!t200), sm_, H', ⟨by have := HJ1.out; first | omega | exact Nat.le_refl _⟩, ⟨by (with_reducible repeat (first | refine blk_drewN ?_ _ | refine blk_drew ?_ | refine blk_alloc ?_ _)); exact BK194.out⟩, ⟨bwx_⟩⟩
     case rest =>
      clear HC15
      try clear c1
      try clear p2
      try clear c5
      try clear c7
      try clear c10
      try clear c11
      try clear c12
      try clear c14
      try clear c18
      try clear hcz10_0 hcz10_1 hcz10_2 hcz10_3 hcz10_4 hcz10_5 hcz10_6
      try clear hcz11_0 hcz11_1 hcz11_2 hcz11_3 hcz11_4 hcz11_5 hcz11_6
      try clear hcz16_0 hcz16_1 hcz16_2 hcz16_3 hcz16_4 hcz16_5 hcz16_6
      try clear hcz20_0 hcz20_1 hcz20_2 hcz20_3 hcz20_4 hcz20_5 hcz20_6
      try clear hcz21_0 hcz21_1 hcz21_2 hcz21_3 hcz21_4 hcz21_5 hcz21_6
      try clear hcz9_0 hcz9_1 hcz9_2 hcz9_3 hcz9_4 hcz9_5 hcz9_6
      try clear hfz10_0 hfz10_1 hfz10_2 hfz10_3 hfz10_4 hfz10_5 hfz10_6
      try clear hfz11_0 hfz11_1 hfz11_2 hfz11_3 hfz11_4 hfz11_5 hfz11_6
      try clear hfz16_0 hfz16_1 hfz16_2 hfz16_3 hfz16_4 hfz16_5 hfz16_6
      try clear hfz20_0 hfz20_1 hfz20_2 hfz20_3 hfz20_4 hfz20_5 hfz20_6
      try clear hfz21_0 hfz21_1 hfz21_2 hfz21_3 hfz21_4 hfz21_5 hfz21_6
      try clear hfz9_0 hfz9_1 hfz9_2 hfz9_3 hfz9_4 hfz9_5 hfz9_6
      try clear p2
      obtain ⟨kq, x25_14, rfl, HA, HJ14, BK194, HB⟩ := hcut
      cases kq with
      | zero => exact absurd HA.out (by simp [accountingref12_Line.j1])
      | succ kj14 =>
       have H := HA.out
       clear HA
       simp only [accountingref12_Line.j1] at H
       by_cases c22 : x25_14 = true
       ·subst c22
        have H1 : (some 4) = some r := by rw [if_pos rfl] at H; exact H
        clear H
        have H := H1
        clear H1
        obtain rfl := Option.some.inj H
        go_wp2
        go_ret
        exact ⟨ew_, bwx_⟩
       replace c22 := Bool.eq_false_iff.mpr c22
       subst c22
       have H1 : (if a0_2 = 0 then (accountingref12_Line.j2 kj14 (a0_3 == 0) a0_0 a0_1 a0_2 a0_3 a0_4 a0_5 l0_6) else (accountingref12_Line.j2 kj14 false a0_0 a0_1 a0_2 a0_3 a0_4 a0_5 l0_6)) = some r := by rw [if_neg (show ¬ (false = true) by decide)] at H; exact H
       clear H
       have H := H1
       clear H1
       have HC23 := Aside0.mk H
       clear H
       go_upto_region 7 with (fail)
       go_cut [36] (fun v36 wc => ∃ (kq : Nat) (x36_22 : Bool), v36 = .bool x36_22 ∧ Aside0 (accountingref12_Line.j2 kq x36_22 a0_0 a0_1 a0_2 a0_3 a0_4 a0_5 l0_6 = some r) ∧ Aside0 (kq ≤ kj14) ∧ Aside0 (wc.heap[gb194]? = some (.cells #[.string a0_0, .string a0_1, .int .i64 a0_2, .int .i64 a0_3, .string a0_4, .string a0_5, (.slice A0_6 l0_6.length c0_6)] 109 (0, 0))) ∧ Aside0 (Below w.heap.size w wc))
       case first =>
        have H := HC23.out
        clear HC23
        by_cases c24 : a0_2 = 0
        ·rw [if_pos c24] at H
         have c24b0 : (a0_2 == 0) = true := beq_iff_eq.mpr c24
         have c24b1 : (a0_2 != 0) = false := bne_eq_false_iff_eq.mpr c24
         clear c24
         (first | rw [c24b0] | (simp only [i64_w, i32_w]; rw [c24b0]) | skip)
         have H' := Aside0.mk H
         clear H
         obtain ⟨hcz25_0, hcz25_1, hcz25_2, hcz25_3, hcz25_4, hcz25_5, hcz25_6⟩ := bc7_ (w := wc) BK194.out
         obtain ⟨hfz25_0, hfz25_1, hfz25_2, hfz25_3, hfz25_4, hfz25_5, hfz25_6⟩ := bf7_ BK194.out
         go_wp2
         go_meet
         case rel => exact ⟨_, ((a0_3 == 0)), sm_, H', ⟨by have := HJ1.out; have := HJ14.out; first | omega | exact Nat.le_refl _⟩, ⟨by (with_reducible repeat (first | refine blk_drewN ?_ _ | refine blk_drew ?_ | refine blk_alloc ?_ _)); exact BK194.out⟩, ⟨bwx_⟩⟩
        rw [if_neg c24] at H
        have c24b0 : (a0_2 == 0) = false := beq_eq_false_iff_ne.mpr c24
        have c24b1 : (a0_2 != 0) = true := bne_iff_ne.mpr c24
        (first | rw [c24b0] | (simp only [i64_w, i32_w]; rw [c24b0]) | skip)
        have H' := Aside0.mk H
        clear H
        obtain ⟨hcz26_0, hcz26_1, hcz26_2, hcz26_3, hcz26_4, hcz26_5, hcz26_6⟩ := bc7_ (w := wc) BK194.out
        obtain ⟨hfz26_0, hfz26_1, hfz26_2, hfz26_3, hfz26_4, hfz26_5, hfz26_6⟩ := bf7_ BK194.out
        go_wp2
        go_meet
        case rel => exact ⟨_, (false), sm_, H', ⟨by have := HJ1.out; have := HJ14.out; first | omega | exact Nat.le_refl _⟩, ⟨by (with_reducible repeat (first | refine blk_drewN ?_ _ | refine blk_drew ?_ | refine blk_alloc ?_ _)); exact BK194.out⟩, ⟨bwx_⟩⟩
       case rest =>
        clear HC23
        try clear c1
        try clear c2
        try clear p2
        try clear c5
        try clear c7
        try clear c10
        try clear c11
        try clear c12
        try clear c14
        try clear c18
        try clear c22
        try clear c24
        try clear c24b0
        try clear c24b1
        try clear hcz10_0 hcz10_1 hcz10_2 hcz10_3 hcz10_4 hcz10_5 hcz10_6
        try clear hcz11_0 hcz11_1 hcz11_2 hcz11_3 hcz11_4 hcz11_5 hcz11_6
        try clear hcz16_0 hcz16_1 hcz16_2 hcz16_3 hcz16_4 hcz16_5 hcz16_6
        try clear hcz20_0 hcz20_1 hcz20_2 hcz20_3 hcz20_4 hcz20_5 hcz20_6
        try clear hcz21_0 hcz21_1 hcz21_2 hcz21_3 hcz21_4 hcz21_5 hcz21_6
        try clear hcz25_0 hcz25_1 hcz25_2 hcz25_3 hcz25_4 hcz25_5 hcz25_6
        try clear hcz26_0 hcz26_1 hcz26_2 hcz26_3 hcz26_4 hcz26_5 hcz26_6
        try clear hcz9_0 hcz9_1 hcz9_2 hcz9_3 hcz9_4 hcz9_5 hcz9_6
        try clear hfz10_0 hfz10_1 hfz10_2 hfz10_3 hfz10_4 hfz10_5 hfz10_6
        try clear hfz11_0 hfz11_1 hfz11_2 hfz11_3 hfz11_4 hfz11_5 hfz11_6
        try clear hfz16_0 hfz16_1 hfz16_2 hfz16_3 hfz16_4 hfz16_5 hfz16_6
        try clear hfz20_0 hfz20_1 hfz20_2 hfz20_3 hfz20_4 hfz20_5 hfz20_6
        try clear hfz21_0 hfz21_1 hfz21_2 hfz21_3 hfz21_4 hfz21_5 hfz21_6
        try clear hfz25_0 hfz25_1 hfz25_2 hfz25_3 hfz25_4 hfz25_5 hfz25_6
        try clear hfz26_0 hfz26_1 hfz26_2 hfz26_3 hfz26_4 hfz26_5 hfz26_6
        try clear hfz9_0 hfz9_1 hfz9_2 hfz9_3 hfz9_4 hfz9_5 hfz9_6
        try clear p2
        obtain ⟨kq, x36_22, rfl, HA, HJ22, BK194, HB⟩ := hcut
        cases kq with
        | zero => exact absurd HA.out (by simp [accountingref12_Line.j2])
        | succ kj22 =>
         have H := HA.out
         clear HA
         simp only [accountingref12_Line.j2] at H
         by_cases c27 : x36_22 = true
         ·subst c27
          have H1 : (some 2) = some r := by rw [if_pos rfl] at H; exact H
          clear H
          have H := H1
          clear H1
          obtain rfl := Option.some.inj H
          go_wp2
          go_ret
          exact ⟨ew_, bwx_⟩
         replace c27 := Bool.eq_false_iff.mpr c27
         subst c27
         have H1 : ((accountingref09_Right.f kj22 l0_6).bind fun t201 => (if t201 = true then (some 0) else (some 14))) = some r := by rw [if_neg (show ¬ (false = true) by decide)] at H; exact H
         clear H
         have H := H1
         clear H1
         replace H := Option.bind_eq_some_iff.mp H
         obtain ⟨t201, A280, H⟩ := H
         replace H : (if t201 = true then (some 0) else (some 14)) = some r := H
         have A28 := Aside0.mk A280
         clear A280
         by_cases c29 : t201 = true
         ·subst c29
          have H1 : (some 0) = some r := by rw [if_pos rfl] at H; exact H
          clear H
          have H := H1
          clear H1
          obtain rfl := Option.some.inj H
          obtain ⟨hcz30_0, hcz30_1, hcz30_2, hcz30_3, hcz30_4, hcz30_5, hcz30_6⟩ := bc7_ (w := wc) BK194.out
          obtain ⟨hfz30_0, hfz30_1, hfz30_2, hfz30_3, hfz30_4, hfz30_5, hfz30_6⟩ := bf7_ BK194.out
          go_wp2_with (first | ((with_reducible refine gate_callee (f := 142) rfl ?_); refine goesL_ (some 48) rfl rfl Tryd.func142 (by kernel_rfl) rfl #[.slice A0_6 l0_6.length c0_6] rfl ml_ ?_; (with_reducible refine (accountingref09_Right.calls kj22 _ _ l0_6 true _ ?side1 ?side2 A28.out).mono ?_); (case side1 => repeat (first | exact (Kd.C_below HR0_6.out HB.out) | (with_reducible refine Kd.C_alloc ?_ _) | (with_reducible refine Kd.C_drewN ?_ _) | (with_reducible refine Kd.C_drew ?_))); (case side2 => exact HC0_6.out); rintro e w31 ⟨rfl, hb⟩; refine ⟨_, rfl, ?_⟩; have n0_ := Aside0.mk (bb_ BK194 hb); have n1_ := Aside0.mk (below_step (bwx_) hb); clear BK194; clear HB; have BK194 := n0_; have HB := n1_; clear n0_ n1_; (try clear hb); (try clear hb2); (try clear hk); (try clear hi)))
          go_ret
          exact ⟨ew_, bwx_⟩
         replace c29 := Bool.eq_false_iff.mpr c29
         subst c29
         have H1 : (some 14) = some r := by rw [if_neg (show ¬ (false = true) by decide)] at H; exact H
         clear H
         have H := H1
         clear H1
         obtain rfl := Option.some.inj H
         obtain ⟨hcz32_0, hcz32_1, hcz32_2, hcz32_3, hcz32_4, hcz32_5, hcz32_6⟩ := bc7_ (w := wc) BK194.out
         obtain ⟨hfz32_0, hfz32_1, hfz32_2, hfz32_3, hfz32_4, hfz32_5, hfz32_6⟩ := bf7_ BK194.out
         go_wp2_with (first | ((with_reducible refine gate_callee (f := 142) rfl ?_); refine goesL_ (some 48) rfl rfl Tryd.func142 (by kernel_rfl) rfl #[.slice A0_6 l0_6.length c0_6] rfl ml_ ?_; (with_reducible refine (accountingref09_Right.calls kj22 _ _ l0_6 false _ ?side1 ?side2 A28.out).mono ?_); (case side1 => repeat (first | exact (Kd.C_below HR0_6.out HB.out) | (with_reducible refine Kd.C_alloc ?_ _) | (with_reducible refine Kd.C_drewN ?_ _) | (with_reducible refine Kd.C_drew ?_))); (case side2 => exact HC0_6.out); rintro e w33 ⟨rfl, hb⟩; refine ⟨_, rfl, ?_⟩; have n0_ := Aside0.mk (bb_ BK194 hb); have n1_ := Aside0.mk (below_step (bwx_) hb); clear BK194; clear HB; have BK194 := n0_; have HB := n1_; clear n0_ n1_; (try clear hb); (try clear hb2); (try clear hk); (try clear hi)))
         go_ret
         exact ⟨ew_, bwx_⟩
    ·replace c14 := Bool.eq_false_iff.mpr c14
     subst c14
     have H1 : (some 13) = some r := by rw [if_neg (show ¬ (false = true) by decide)] at H; exact H
     clear H
     have H := H1
     clear H1
     obtain rfl := Option.some.inj H
     obtain ⟨hcz34_0, hcz34_1, hcz34_2, hcz34_3, hcz34_4, hcz34_5, hcz34_6⟩ := bc7_ (w := wc) BK194.out
     obtain ⟨hfz34_0, hfz34_1, hfz34_2, hfz34_3, hfz34_4, hfz34_5, hfz34_6⟩ := bf7_ BK194.out
     go_wp2_with (first | ((with_reducible refine gate_callee (f := 114) rfl ?_); refine goesL_ (some 23) rfl rfl Tryd.func114 (by kernel_rfl) rfl #[.string a0_1] rfl ml_ ?_; (with_reducible refine (accountingref07_Code.calls kj1 a0_1 false _ A13.out).mono ?_); rintro e w' ⟨rfl, ⟨nd, rfl⟩⟩; refine ⟨_, rfl, ?_⟩))
     go_ret
     exact ⟨ew_, bwx_⟩
def accountingref01_Sum.l0 : Nat → List Int → Int → Int → Int → Option (Int × Bool)
 | 0, _, _, _, _ => none
 | k + 1, x0, x4, x5, x6 => if x6 < (x0.length : Int) then (if 0 ≤ x6 then (accountingref01_Sum.l0 k x0 (wrap64 (x4 + ((rd x0 x6) / 4294967296))) (wrap64 (x5 + (Go.bits .and .i64 (rd x0 x6) 4294967295))) (wrap64 (x6 + 1))) else (none)) else (if (wrap64 (x4 + (x5 / 4294967296))) < (-2147483648) then (some (0, false)) else (if (wrap64 (x4 + (x5 / 4294967296))) > 2147483647 then (some (0, false)) else (some (wrap64 ((wrap64 ((wrap64 (x4 + (x5 / 4294967296))) * 4294967296)) + (Go.bits .and .i64 x5 4294967295)), true))))
def accountingref01_Sum.f (k : Nat) (l0 : List Int) : Option (Int × Bool) := accountingref01_Sum.l0 k l0 0 0 0
set_option maxHeartbeats 8000000 in
set_option maxRecDepth 100000 in
theorem accountingref01_Sum.calls (k : Nat) (A0 : Option Addr) (c0 : Nat) (l0 : List Int) (r1 : Int) (r2 : Bool) (w : World) (hr0 : Kd.C (Kd.int .i64) w A0 l0.length l0) (hc0 : l0.length ≤ c0) (h : accountingref01_Sum.f k l0 = some (r1, r2)) :
  Calls Tryd.prog 77 #[.slice A0 l0.length c0] w fun e w' => e = .returned (.tuple #[.int .i64 r1, .bool r2]) ∧ Drawn0 w w' := by
 have HR0 := Aside0.mk hr0
 have HC0 := Aside0.mk hc0
 clear hr0 hc0
 have H : (accountingref01_Sum.l0 k l0 0 0 0) = some (r1, r2) := h
 clear h
 have H' := Aside0.mk H
 clear H
 go_enter Tryd.func77, Tryd.ntmps77
 go_wp2
 go_loopg [4, 5, 6] k (fun kq v4 v5 v6 w' => ∃ (x4_1 : Int) (x5_1 : Int) (x6_1 : Int), v4 = .int .i64 x4_1 ∧ v5 = .int .i64 x5_1 ∧ v6 = .int .i64 x6_1 ∧ Aside0 (accountingref01_Sum.l0 kq l0 x4_1 x5_1 x6_1 = some (r1, r2)) ∧ Aside0 (kq ≤ k) ∧ Drawn0 w w')
 case atStart => exact ⟨(0), (0), (0), sm_, sm_, sm_, H', ⟨Nat.le_refl _⟩, by repeat (first | exact Drawn0.refl _ | apply Drawn0.step)⟩
 case round =>
  clear H'
  obtain ⟨x4_1, x5_1, x6_1, rfl, rfl, rfl, HA, HK1, ⟨m1, rfl⟩⟩ := hrel
  cases gk with
  | zero => exact absurd HA.out (by simp [accountingref01_Sum.l0])
  | succ k1 =>
   have H := HA.out
   clear HA
   simp only [accountingref01_Sum.l0] at H
   by_cases c2 : x6_1 < (l0.length : Int)
   ·rw [if_pos c2] at H
    have c2b0 : decide (x6_1 < (l0.length : Int)) = true := decide_eq_true c2
    clear c2
    by_cases c3 : 0 ≤ x6_1
    rotate_left
    ·rw [if_neg c3] at H
     exact absurd H (by simp)
    rw [if_pos c3] at H
    have c3b0 : decide (0 ≤ x6_1) = true := decide_eq_true c3
    clear c3
    have H' := Aside0.mk H
    clear H
    have p202 : 0 ≤ (x6_1 : Int) := odt_
    have q202 : x6_1 < (l0.length : Int) := odt_
    obtain ⟨ad202, e202, hx202_0⟩ := Kd.at_int HR0.out x6_1 p202 q202
    cases e202
    replace p202 := eq_true p202
    replace q202 := eq_true q202
    have p203 : 0 ≤ (x6_1 : Int) := odt_
    have q203 : x6_1 < (l0.length : Int) := odt_
    obtain ⟨ad203, e203, hx203_0⟩ := Kd.at_int HR0.out x6_1 p203 q203
    obtain rfl : ad202 = ad203 := (by injection e203)
    replace p203 := eq_true p203
    replace q203 := eq_true q203
    go_wp2
    go_roundg k1
    case measure => have := HK1.out; omega
    case rel => exact ⟨(wrap64 (x4_1 + ((rd l0 x6_1) / 4294967296))), (wrap64 (x5_1 + (Go.bits .and .i64 (rd l0 x6_1) 4294967295))), (wrap64 (x6_1 + 1)), sm_, sm_, sm_, H', ⟨by have := HK1.out; omega⟩, by repeat (first | exact Drawn0.refl _ | apply Drawn0.step)⟩
   ·rw [if_neg c2] at H
    have c2b0 : decide (x6_1 < (l0.length : Int)) = false := decide_eq_false c2
    clear c2
    by_cases c4 : (wrap64 (x4_1 + (x5_1 / 4294967296))) < (-2147483648)
    ·rw [if_pos c4] at H
     have c4b0 : decide ((wrap64 (x4_1 + (x5_1 / 4294967296))) < (-2147483648)) = true := decide_eq_true c4
     clear c4
     simp only [Option.some.injEq, Prod.mk.injEq] at H
     obtain ⟨rfl, rfl⟩ := H
     go_wp2
     go_ret2
     exact ⟨by first | rfl | (simp; done) | (simp [*]; done), by repeat (first | exact Drawn0.refl _ | apply Drawn0.step)⟩
    ·rw [if_neg c4] at H
     have c4b0 : decide ((wrap64 (x4_1 + (x5_1 / 4294967296))) < (-2147483648)) = false := decide_eq_false c4
     clear c4
     by_cases c5 : (wrap64 (x4_1 + (x5_1 / 4294967296))) > 2147483647
     ·rw [if_pos c5] at H
      have c5b0 : decide (2147483647 < (wrap64 (x4_1 + (x5_1 / 4294967296)))) = true := decide_eq_true c5
      clear c5
      simp only [Option.some.injEq, Prod.mk.injEq] at H
      obtain ⟨rfl, rfl⟩ := H
      go_wp2
      go_ret2
      exact ⟨by first | rfl | (simp; done) | (simp [*]; done), by repeat (first | exact Drawn0.refl _ | apply Drawn0.step)⟩
     ·rw [if_neg c5] at H
      have c5b0 : decide (2147483647 < (wrap64 (x4_1 + (x5_1 / 4294967296)))) = false := decide_eq_false c5
      clear c5
      simp only [Option.some.injEq, Prod.mk.injEq] at H
      obtain ⟨rfl, rfl⟩ := H
      go_wp2
      go_ret2
      exact ⟨by first | rfl | (simp; done) | (simp [*]; done), by repeat (first | exact Drawn0.refl _ | apply Drawn0.step)⟩
def accountingref12_sums.l0 : Nat → List (S109) → ByteArray → List Int → List Int → Int → Option (Int × Int × Bool)
 | 0, _, _, _, _, _ => none
 | k + 1, x0, x1, x7, x8, x9 => if x9 < (x0.length : Int) then (if 0 ≤ x9 then (if ((rd_T109 x0 x9).f1).toList = x1.toList then (if x7.length < 17592186044416 then (if x8.length < 17592186044416 then (accountingref12_sums.l0 k x0 x1 (x7 ++ [(rd_T109 x0 x9).f2]) (x8 ++ [(rd_T109 x0 x9).f3]) (wrap64 (x9 + 1))) else (none)) else (none)) else (accountingref12_sums.l0 k x0 x1 x7 x8 (wrap64 (x9 + 1)))) else (none)) else ((accountingref01_Sum.f k x7).bind fun bt213 => ((accountingref01_Sum.f k x8).bind fun bt215 => (if bt213.2 = true then (some (bt213.1, bt215.1, bt215.2)) else (some (bt213.1, bt215.1, false)))))
def accountingref12_sums.f (k : Nat) (l0 : List (S109)) (a1 : ByteArray) : Option (Int × Int × Bool) := accountingref12_sums.l0 k l0 a1 ([] : List Int) ([] : List Int) 0
set_option maxHeartbeats 8000000 in
set_option maxRecDepth 100000 in
theorem accountingref12_sums.calls (k : Nat) (A0 : Option Addr) (c0 : Nat) (l0 : List (S109)) (a1 : ByteArray) (r1 : Int) (r2 : Int) (r3 : Bool) (w : World) (hr0 : Kd.C k109 w A0 l0.length l0) (hc0 : l0.length ≤ c0) (h : accountingref12_sums.f k l0 a1 = some (r1, r2, r3)) :
  Calls Tryd.prog 144 #[.slice A0 l0.length c0, .string a1] w fun e w' => e = .returned (.tuple #[.int .i64 r1, .int .i64 r2, .bool r3]) ∧ Below w.heap.size w w' := by
 have HR0 := Aside0.mk hr0
 have HC0 := Aside0.mk hc0
 clear hr0 hc0
 have HB := Aside0.mk (Below.refl w.heap.size w)
 have H : (accountingref12_sums.l0 k l0 a1 ([] : List Int) ([] : List Int) 0) = some (r1, r2, r3) := h
 clear h
 have H' := Aside0.mk H
 clear H
 go_enter Tryd.func144, Tryd.ntmps144
 go_wp2
 go_loopg [7, 8, 9] k (fun kq v7 v8 v9 w' => ∃ (x7_1 : List Int) (x8_1 : List Int) (x9_1 : Int), v9 = .int .i64 x9_1 ∧ Aside0 (accountingref12_sums.l0 kq l0 a1 x7_1 x8_1 x9_1 = some (r1, r2, r3)) ∧ Aside0 (kq ≤ k) ∧ Aside0 (Kd.R (Kd.int .i64) 3 w' w.heap.size (fun k_ => some k_ ≠ (v8 : Value).ownBlock) v7 x7_1) ∧ Aside0 (Kd.R (Kd.int .i64) 3 w' w.heap.size (fun k_ => some k_ ≠ (v7 : Value).ownBlock) v8 x8_1) ∧ Aside0 (Below w.heap.size w w'))
 case atStart => exact ⟨(([] : List Int)), (([] : List Int)), (0), sm_, H', ⟨Nat.le_refl _⟩, ⟨by first | exact Kd.R_nil _ _ _ _ _ | exact Kd.N_nil _ _ _ _ _ | exact Kd.V_nil _ _ _ _ _ | exact Kd.Q_nil _ _ _ _ _ | exact Kd.S_nil _ _ _ _ _⟩, ⟨by first | exact Kd.R_nil _ _ _ _ _ | exact Kd.N_nil _ _ _ _ _ | exact Kd.V_nil _ _ _ _ _ | exact Kd.Q_nil _ _ _ _ _ | exact Kd.S_nil _ _ _ _ _⟩, ⟨bw_⟩⟩
 case round =>
  clear H'
  try clear c1
  try clear p2
  obtain ⟨x7_1, x8_1, x9_1, rfl, HA, HK1, HO_7, HO_8, HB⟩ := hrel
  cases gk with
  | zero => exact absurd HA.out (by simp [accountingref12_sums.l0])
  | succ k1 =>
   have H := HA.out
   clear HA
   simp only [accountingref12_sums.l0] at H
   by_cases c3 : x9_1 < (l0.length : Int)
   ·rw [if_pos c3] at H
    have c3b0 : decide (x9_1 < (l0.length : Int)) = true := decide_eq_true c3
    clear c3
    by_cases c4 : 0 ≤ x9_1
    rotate_left
    ·rw [if_neg c4] at H
     exact absurd H (by simp)
    rw [if_pos c4] at H
    have c4b0 : decide (0 ≤ x9_1) = true := decide_eq_true c4
    clear c4
    by_cases c5 : ((rd_T109 l0 x9_1).f1).toList = a1.toList
    rotate_left
    ·rw [if_neg c5] at H
     have c5b0 : (((rd_T109 l0 x9_1).f1).toList == a1.toList) = false := beq_eq_false_iff_ne.mpr c5
     have c5b1 : (((rd_T109 l0 x9_1).f1).toList != a1.toList) = true := bne_iff_ne.mpr c5
     have H' := Aside0.mk H
     clear H
     have p204 : 0 ≤ (x9_1 : Int) := odt_
     have q204 : x9_1 < (l0.length : Int) := odt_
     obtain ⟨ad204, A204_6, c204_6, e204, hx204_0, hx204_1, hx204_2, hx204_3, hx204_4, hx204_5, hx204_6, hl204_6, hi204_6⟩ := at_T109 HR0.out x9_1 p204 q204
     cases e204
     replace hx204_0 := bcl_ HB hx204_0
     replace hx204_1 := bcl_ HB hx204_1
     replace hx204_2 := bcl_ HB hx204_2
     replace hx204_3 := bcl_ HB hx204_3
     replace hx204_4 := bcl_ HB hx204_4
     replace hx204_5 := bcl_ HB hx204_5
     replace hx204_6 := bcl_ HB hx204_6
     have HR204_6 := Aside0.mk hi204_6
     have HC204_6 := Aside0.mk hl204_6
     clear hi204_6 hl204_6
     replace p204 := eq_true p204
     replace q204 := eq_true q204
     go_wp2
     go_roundg k1
     case measure => have := HK1.out; omega
     case rel => exact ⟨(x7_1), (x8_1), (wrap64 (x9_1 + 1)), sm_, H', ⟨by have := HK1.out; omega⟩, ⟨by (with_reducible repeat (first | apply Kd.R_alloc | apply Kd.R_drewN | apply Kd.R_drew)); exact HO_7.out⟩, ⟨by (with_reducible repeat (first | apply Kd.R_alloc | apply Kd.R_drewN | apply Kd.R_drew)); exact HO_8.out⟩, ⟨bw_⟩⟩
    rw [if_pos c5] at H
    have c5b0 : (((rd_T109 l0 x9_1).f1).toList == a1.toList) = true := beq_iff_eq.mpr c5
    have c5b1 : (((rd_T109 l0 x9_1).f1).toList != a1.toList) = false := bne_eq_false_iff_eq.mpr c5
    clear c5
    by_cases c6 : x7_1.length < 17592186044416
    rotate_left
    ·rw [if_neg c6] at H
     exact absurd H (by simp)
    rw [if_pos c6] at H
    have LMc6 := Aside0.mk c6
    clear c6
    obtain ⟨y206, hy206⟩ : ∃ y_ : List Int, y_ = (x7_1 ++ [(rd_T109 l0 x9_1).f2]) := ⟨_, rfl⟩
    replace H : (if x8_1.length < 17592186044416 then (accountingref12_sums.l0 k1 l0 a1 y206 (x8_1 ++ [(rd_T109 l0 x9_1).f3]) (wrap64 (x9_1 + 1))) else (none)) = some (r1, r2, r3) := by first | (rw [hy206]; with_reducible exact H) | (have H2_ := (Option.bind_some _ _).symm.trans H; rw [hy206]; with_reducible exact H2_) | (have H2_ := (Option.bind_some _ _).symm.trans H; with_reducible exact H2_) | with_reducible exact H | (rw [hy206]; exact H) | exact H
    have Ny206 := Aside0.mk hy206
    clear hy206
    by_cases c7 : x8_1.length < 17592186044416
    rotate_left
    ·rw [if_neg c7] at H
     exact absurd H (by simp)
    rw [if_pos c7] at H
    have LMc7 := Aside0.mk c7
    clear c7
    obtain ⟨y210, hy210⟩ : ∃ y_ : List Int, y_ = (x8_1 ++ [(rd_T109 l0 x9_1).f3]) := ⟨_, rfl⟩
    replace H : (accountingref12_sums.l0 k1 l0 a1 y206 y210 (wrap64 (x9_1 + 1))) = some (r1, r2, r3) := by first | (rw [hy210]; with_reducible exact H) | (have H2_ := (Option.bind_some _ _).symm.trans H; rw [hy210]; with_reducible exact H2_) | (have H2_ := (Option.bind_some _ _).symm.trans H; with_reducible exact H2_) | with_reducible exact H | (rw [hy210]; exact H) | exact H
    have Ny210 := Aside0.mk hy210
    clear hy210
    have H' := Aside0.mk H
    clear H
    have p204 : 0 ≤ (x9_1 : Int) := odt_
    have q204 : x9_1 < (l0.length : Int) := odt_
    obtain ⟨ad204, A204_6, c204_6, e204, hx204_0, hx204_1, hx204_2, hx204_3, hx204_4, hx204_5, hx204_6, hl204_6, hi204_6⟩ := at_T109 HR0.out x9_1 p204 q204
    cases e204
    replace hx204_0 := bcl_ HB hx204_0
    replace hx204_1 := bcl_ HB hx204_1
    replace hx204_2 := bcl_ HB hx204_2
    replace hx204_3 := bcl_ HB hx204_3
    replace hx204_4 := bcl_ HB hx204_4
    replace hx204_5 := bcl_ HB hx204_5
    replace hx204_6 := bcl_ HB hx204_6
    have HR204_6 := Aside0.mk hi204_6
    have HC204_6 := Aside0.mk hl204_6
    clear hi204_6 hl204_6
    replace p204 := eq_true p204
    replace q204 := eq_true q204
    have p205 : 0 ≤ (x9_1 : Int) := odt_
    have q205 : x9_1 < (l0.length : Int) := odt_
    obtain ⟨ad205, A205_6, c205_6, e205, hx205_0, hx205_1, hx205_2, hx205_3, hx205_4, hx205_5, hx205_6, hl205_6, hi205_6⟩ := at_T109 HR0.out x9_1 p205 q205
    obtain rfl : ad204 = ad205 := (by injection e205)
    replace hx205_0 := bcl_ HB hx205_0
    replace hx205_1 := bcl_ HB hx205_1
    replace hx205_2 := bcl_ HB hx205_2
    replace hx205_3 := bcl_ HB hx205_3
    replace hx205_4 := bcl_ HB hx205_4
    replace hx205_5 := bcl_ HB hx205_5
    replace hx205_6 := bcl_ HB hx205_6
    have HR205_6 := Aside0.mk hi205_6
    have HC205_6 := Aside0.mk hl205_6
    clear hi205_6 hl205_6
    replace p205 := eq_true p205
    replace q205 := eq_true q205
    have ea_ := Option.some.inj (hx204_6.symm.trans hx205_6)
    injection ea_ with ea_ en_ ec_
    subst ea_
    subst ec_
    clear en_
    go_wp2_with (first | ((with_reducible refine gate_builtin (b := .append) (xs := #[.tmp 27, .tmp 33]) rfl ?_); at_builtin; refine Kd.R_append (Kd.int .i64) (w0 := w) w.heap.size rfl (.tmp 27) (.tmp 33) 43 3 (.int .i64 0) 8 rfl Tryd.underlying43 info3 rfl (by decide) (by omega) u7 x7_1 ((rd_T109 l0 x9_1).f2) [.int .i64 ((rd_T109 l0 x9_1).f2)] (fun k_ => some k_ ≠ (u8 : Value).ownBlock) (fun _ => False) rfl rfl ?aP (fun _ hk => hk.elim) ?aF ?aO ?aB ?aS ?aL ?_; (case aP => exact rfl); (case aB => exact (bw_)); (case aF => exact (fun k_ hk => Kd.fresh' (Kd.R_lt (by (with_reducible repeat (first | apply Kd.R_alloc | apply Kd.R_drewN | apply Kd.R_drew)); exact HO_8.out)) k_ hk)); (case aO => exact (by (with_reducible repeat (first | apply Kd.R_alloc | apply Kd.R_drewN | apply Kd.R_drew)); exact HO_7.out)); (case aS => exact (below_size (bw_))); (case aL => have := LMc6.out; omega); intro v207 w8 ho hb hg hat; rw [← Ny206.out] at ho; have n0_ := Aside0.mk (Kd.R_after (ok := (fun _ => True)) (by (with_reducible repeat (first | apply Kd.R_alloc | apply Kd.R_drewN | apply Kd.R_drew)); exact Kd.R_mono HO_8.out (fun _ hk => ⟨trivial, hk⟩)) hg hat); have n1_ := Aside0.mk (hb); have n2_ := Aside0.mk (ho); clear HO_8; clear HB; clear HO_7; have HO_8 := n0_; have HB := n1_; have HO208 := n2_; clear n0_ n1_ n2_; clear ho hb hg hat; have p209 : 0 ≤ (x9_1 : Int) := odt_; have q209 : x9_1 < (l0.length : Int) := odt_; obtain ⟨ad209, A209_6, c209_6, e209, hx209_0, hx209_1, hx209_2, hx209_3, hx209_4, hx209_5, hx209_6, hl209_6, hi209_6⟩ := at_T109 HR0.out x9_1 p209 q209; obtain rfl : ad204 = ad209 := (by injection e209); replace hx209_0 := bcl_ HB hx209_0; replace hx209_1 := bcl_ HB hx209_1; replace hx209_2 := bcl_ HB hx209_2; replace hx209_3 := bcl_ HB hx209_3; replace hx209_4 := bcl_ HB hx209_4; replace hx209_5 := bcl_ HB hx209_5; replace hx209_6 := bcl_ HB hx209_6; have HR209_6 := Aside0.mk hi209_6; have HC209_6 := Aside0.mk hl209_6; clear hi209_6 hl209_6; replace p209 := eq_true p209; replace q209 := eq_true q209) | ((with_reducible refine gate_builtin (b := .append) (xs := #[.tmp 35, .tmp 41]) rfl ?_); at_builtin; refine Kd.R_append (Kd.int .i64) (w0 := w) w.heap.size rfl (.tmp 35) (.tmp 41) 43 3 (.int .i64 0) 8 rfl Tryd.underlying43 info3 rfl (by decide) (by omega) u8 x8_1 ((rd_T109 l0 x9_1).f3) [.int .i64 ((rd_T109 l0 x9_1).f3)] (fun k_ => some k_ ≠ (v207 : Value).ownBlock) (fun _ => False) rfl rfl ?aP (fun _ hk => hk.elim) ?aF ?aO ?aB ?aS ?aL ?_; (case aP => exact rfl); (case aB => exact (bw_)); (case aF => exact (fun k_ hk => Kd.fresh' (Kd.R_lt (by (with_reducible repeat (first | apply Kd.R_alloc | apply Kd.R_drewN | apply Kd.R_drew)); exact HO208.out)) k_ hk)); (case aO => exact (by (with_reducible repeat (first | apply Kd.R_alloc | apply Kd.R_drewN | apply Kd.R_drew)); exact Kd.R_mono HO_8.out (fun _ hk => hk.2))); (case aS => exact (below_size (bw_))); (case aL => have := LMc7.out; omega); intro v211 w9 ho hb hg hat; rw [← Ny210.out] at ho; have n0_ := Aside0.mk (Kd.R_after (ok := (fun _ => True)) (by (with_reducible repeat (first | apply Kd.R_alloc | apply Kd.R_drewN | apply Kd.R_drew)); exact Kd.R_mono HO208.out (fun _ hk => ⟨trivial, hk⟩)) hg hat); have n1_ := Aside0.mk (hb); have n2_ := Aside0.mk (ho); clear HO208; clear HB; clear HO_8; have HO208 := n0_; have HB := n1_; have HO212 := n2_; clear n0_ n1_ n2_; clear ho hb hg hat))
    go_roundg k1
    case measure => have := HK1.out; omega
    case rel => exact ⟨(y206), (y210), (wrap64 (x9_1 + 1)), sm_, H', ⟨by have := HK1.out; omega⟩, ⟨by (with_reducible repeat (first | apply Kd.R_alloc | apply Kd.R_drewN | apply Kd.R_drew)); exact Kd.R_mono HO208.out (fun _ hk => hk.2)⟩, ⟨by (with_reducible repeat (first | apply Kd.R_alloc | apply Kd.R_drewN | apply Kd.R_drew)); exact HO212.out⟩, ⟨bw_⟩⟩
   ·rw [if_neg c3] at H
    have c3b0 : decide (x9_1 < (l0.length : Int)) = false := decide_eq_false c3
    clear c3
    replace H := Option.bind_eq_some_iff.mp H
    obtain ⟨⟨t213, t214⟩, A100, H⟩ := H
    try dsimp only at H
    have A10 := Aside0.mk A100
    clear A100
    replace H := Option.bind_eq_some_iff.mp H
    obtain ⟨⟨t215, t216⟩, A110, H⟩ := H
    try dsimp only at H
    have A11 := Aside0.mk A110
    clear A110
    by_cases c12 : t214 = true
    ·subst c12
     have H1 : (some (t213, t215, t216)) = some (r1, r2, r3) := by rw [if_pos rfl] at H; exact H
     clear H
     have H := H1
     clear H1
     simp only [Option.some.injEq, Prod.mk.injEq] at H
     obtain ⟨rfl, rfl, rfl⟩ := H
     obtain ⟨Ao13, co13, eo13⟩ := Kd.R_slice HO_7.out
     subst eo13
     go_wp2_with (first | ((with_reducible refine gate_callee (f := 77) rfl ?_); refine goesL_ (some 45) rfl rfl Tryd.func77 (by kernel_rfl) rfl #[.slice Ao13 x7_1.length co13] rfl ml_ ?_; (with_reducible refine (accountingref01_Sum.calls k1 _ _ x7_1 t213 true _ ?side1 ?side2 A10.out).mono ?_); (case side1 => repeat (first | exact (Kd.R_reads' HO_7.out).2.2 | (with_reducible refine Kd.C_alloc ?_ _) | (with_reducible refine Kd.C_drewN ?_ _) | (with_reducible refine Kd.C_drew ?_))); (case side2 => exact (Kd.R_reads' HO_7.out).2.1); rintro e w' ⟨rfl, ⟨nd, rfl⟩⟩; refine ⟨_, rfl, ?_⟩; obtain ⟨Ao14, co14, eo14⟩ := Kd.R_slice HO_8.out; subst eo14) | ((with_reducible refine gate_callee (f := 77) rfl ?_); refine goesL_ (some 50) rfl rfl Tryd.func77 (by kernel_rfl) rfl #[.slice Ao14 x8_1.length co14] rfl ml_ ?_; (with_reducible refine (accountingref01_Sum.calls k1 _ _ x8_1 t215 t216 _ ?side1 ?side2 A11.out).mono ?_); (case side1 => repeat (first | exact (Kd.R_reads' HO_8.out).2.2 | (with_reducible refine Kd.C_alloc ?_ _) | (with_reducible refine Kd.C_drewN ?_ _) | (with_reducible refine Kd.C_drew ?_))); (case side2 => exact (Kd.R_reads' HO_8.out).2.1); rintro e w' ⟨rfl, ⟨nd, rfl⟩⟩; refine ⟨_, rfl, ?_⟩))
     go_ret3
     exact ⟨ew_, bw_⟩
    ·replace c12 := Bool.eq_false_iff.mpr c12
     subst c12
     have H1 : (some (t213, t215, false)) = some (r1, r2, r3) := by rw [if_neg (show ¬ (false = true) by decide)] at H; exact H
     clear H
     have H := H1
     clear H1
     simp only [Option.some.injEq, Prod.mk.injEq] at H
     obtain ⟨rfl, rfl, rfl⟩ := H
     obtain ⟨Ao15, co15, eo15⟩ := Kd.R_slice HO_7.out
     subst eo15
     go_wp2_with (first | ((with_reducible refine gate_callee (f := 77) rfl ?_); refine goesL_ (some 45) rfl rfl Tryd.func77 (by kernel_rfl) rfl #[.slice Ao15 x7_1.length co15] rfl ml_ ?_; (with_reducible refine (accountingref01_Sum.calls k1 _ _ x7_1 t213 false _ ?side1 ?side2 A10.out).mono ?_); (case side1 => repeat (first | exact (Kd.R_reads' HO_7.out).2.2 | (with_reducible refine Kd.C_alloc ?_ _) | (with_reducible refine Kd.C_drewN ?_ _) | (with_reducible refine Kd.C_drew ?_))); (case side2 => exact (Kd.R_reads' HO_7.out).2.1); rintro e w' ⟨rfl, ⟨nd, rfl⟩⟩; refine ⟨_, rfl, ?_⟩; obtain ⟨Ao16, co16, eo16⟩ := Kd.R_slice HO_8.out; subst eo16) | ((with_reducible refine gate_callee (f := 77) rfl ?_); refine goesL_ (some 50) rfl rfl Tryd.func77 (by kernel_rfl) rfl #[.slice Ao16 x8_1.length co16] rfl ml_ ?_; (with_reducible refine (accountingref01_Sum.calls k1 _ _ x8_1 t215 t216 _ ?side1 ?side2 A11.out).mono ?_); (case side1 => repeat (first | exact (Kd.R_reads' HO_8.out).2.2 | (with_reducible refine Kd.C_alloc ?_ _) | (with_reducible refine Kd.C_drewN ?_ _) | (with_reducible refine Kd.C_drew ?_))); (case side2 => exact (Kd.R_reads' HO_8.out).2.1); rintro e w' ⟨rfl, ⟨nd, rfl⟩⟩; refine ⟨_, rfl, ?_⟩))
     go_ret3
     exact ⟨ew_, bw_⟩
def accountingref12_Balanced.l0 : Nat → List (S109) → List ByteArray → Int → Option (Bool)
 | 0, _, _, _ => none
 | k + 1, x0, x3, x4 => if x4 < (x3.length : Int) then (if 0 ≤ x4 then ((accountingref12_sums.f k x0 (rdOf ByteArray.empty x3 x4)).bind fun bt221 => (if bt221.2.2 = true then (if bt221.1 = 0 then (if bt221.2.1 = 0 then (accountingref12_Balanced.l0 k x0 x3 (wrap64 (x4 + 1))) else (some false)) else (some false)) else (some false))) else (none)) else (some true)
def accountingref12_Balanced.f (k : Nat) (l0 : List (S109)) : Option (Bool) := (accountingref12_currencies.f l0).bind fun t217 => (accountingref12_Balanced.l0 k l0 t217 0)
set_option maxHeartbeats 8000000 in
set_option maxRecDepth 100000 in
theorem accountingref12_Balanced.calls (k : Nat) (A0 : Option Addr) (c0 : Nat) (l0 : List (S109)) (r : Bool) (w : World) (hr0 : Kd.C k109 w A0 l0.length l0) (hc0 : l0.length ≤ c0) (h : accountingref12_Balanced.f k l0 = some r) :
  Calls Tryd.prog 102 #[.slice A0 l0.length c0] w fun e w' => e = .returned (.bool r) ∧ Below w.heap.size w w' := by
 have HR0 := Aside0.mk hr0
 have HC0 := Aside0.mk hc0
 clear hr0 hc0
 have HB := Aside0.mk (Below.refl w.heap.size w)
 have H : ((accountingref12_currencies.f l0).bind fun t217 => (accountingref12_Balanced.l0 k l0 t217 0)) = some r := h
 clear h
 replace H := Option.bind_eq_some_iff.mp H
 obtain ⟨t217, A20, H⟩ := H
 replace H : (accountingref12_Balanced.l0 k l0 t217 0) = some r := H
 have A2 := Aside0.mk A20
 clear A20
 have H' := Aside0.mk H
 clear H
 go_enter Tryd.func102, Tryd.ntmps102
 go_wp2_with (first | ((with_reducible refine gate_callee (f := 143) rfl ?_); refine goesL_ (some 9) rfl rfl Tryd.func143 (by kernel_rfl) rfl #[.slice A0 l0.length c0] rfl ml_ ?_; (with_reducible refine (accountingref12_currencies.calls _ _ l0 t217 _ ?side1 ?side2 A2.out).mono ?_); (case side1 => repeat (first | exact HR0.out | (with_reducible refine Kd.C_alloc ?_ _) | (with_reducible refine Kd.C_drewN ?_ _) | (with_reducible refine Kd.C_drew ?_))); (case side2 => exact HC0.out); rintro e w3 ⟨v218, rfl, ho0, hb⟩; refine ⟨_, rfl, ?_⟩; have n0_ := Aside0.mk (Kd.R_lower ho0 (below_size (bw_))); have n1_ := Aside0.mk (below_step (bw_) hb); clear HB; have HO219 := n0_; have HB := n1_; clear n0_ n1_; (try clear hb); (try clear hb2); (try clear hk); (try clear hi); (try clear ho0)))
 go_loopg [4] k (fun kq v4 w' => ∃ (x4_1 : Int), v4 = .int .i64 x4_1 ∧ Aside0 (accountingref12_Balanced.l0 kq l0 t217 x4_1 = some r) ∧ Aside0 (kq ≤ k) ∧ Aside0 (Kd.R Kd.string 9 w' w.heap.size (fun _ => True) v218 t217) ∧ Aside0 (Below w.heap.size w w'))
 case atStart => exact ⟨(0), sm_, H', ⟨Nat.le_refl _⟩, ⟨by (with_reducible repeat (first | apply Kd.R_alloc | apply Kd.R_drewN | apply Kd.R_drew)); exact HO219.out⟩, ⟨bw_⟩⟩
 case round =>
  clear H'
  try clear c1
  try clear p2
  obtain ⟨x4_1, rfl, HA, HK1, HO_3, HB⟩ := hrel
  cases gk with
  | zero => exact absurd HA.out (by simp [accountingref12_Balanced.l0])
  | succ k1 =>
   have H := HA.out
   clear HA
   simp only [accountingref12_Balanced.l0] at H
   by_cases c4 : x4_1 < (t217.length : Int)
   ·rw [if_pos c4] at H
    have c4b0 : decide (x4_1 < (t217.length : Int)) = true := decide_eq_true c4
    clear c4
    by_cases c5 : 0 ≤ x4_1
    rotate_left
    ·rw [if_neg c5] at H
     exact absurd H (by simp)
    rw [if_pos c5] at H
    have c5b0 : decide (0 ≤ x4_1) = true := decide_eq_true c5
    clear c5
    replace H := Option.bind_eq_some_iff.mp H
    obtain ⟨⟨t221, t222, t223⟩, A60, H⟩ := H
    try dsimp only at H
    have A6 := Aside0.mk A60
    clear A60
    by_cases c7 : t223 = true
    rotate_left
    ·replace c7 := Bool.eq_false_iff.mpr c7
     subst c7
     have H1 : (some false) = some r := by rw [if_neg (show ¬ (false = true) by decide)] at H; exact H
     clear H
     have H := H1
     clear H1
     obtain rfl := Option.some.inj H
     obtain ⟨Ao16, co16, eo16⟩ := Kd.R_slice HO_3.out
     subst eo16
     have p220 : 0 ≤ (x4_1 : Int) := odt_
     have q220 : x4_1 < (t217.length : Int) := odt_
     obtain ⟨ad220, e220, hx220_0⟩ := Kd.at_string (Kd.R_reads' HO_3.out).2.2 x4_1 p220 q220
     cases e220
     replace p220 := eq_true p220
     replace q220 := eq_true q220
     go_wp2_with (first | ((with_reducible refine gate_callee (f := 144) rfl ?_); refine goesL_ (some 22) rfl rfl Tryd.func144 (by kernel_rfl) rfl #[.slice A0 l0.length c0, .string (rdOf ByteArray.empty t217 x4_1)] rfl ml_ ?_; (with_reducible refine (accountingref12_sums.calls k1 _ _ l0 (rdOf ByteArray.empty t217 x4_1) t221 t222 false _ ?side1 ?side2 A6.out).mono ?_); (case side1 => repeat (first | exact (Kd.C_below HR0.out HB.out) | exact (Kd.C_drewN (Kd.C_below HR0.out HB.out) _) | (with_reducible refine Kd.C_alloc ?_ _) | (with_reducible refine Kd.C_drewN ?_ _) | (with_reducible refine Kd.C_drew ?_))); (case side2 => exact HC0.out); rintro e w17 ⟨rfl, hb⟩; refine ⟨_, rfl, ?_⟩; have n0_ := Aside0.mk (Kd.R_below (by (with_reducible repeat (first | apply Kd.R_alloc | apply Kd.R_drewN | apply Kd.R_drew)); exact HO_3.out) hb); have n1_ := Aside0.mk (below_step (bw_) hb); clear HO_3; clear HB; have HO_3 := n0_; have HB := n1_; clear n0_ n1_; (try clear hb); (try clear hb2); (try clear hk); (try clear hi)))
     go_ret
     exact ⟨ew_, bw_⟩
    subst c7
    have H1 : (if t221 = 0 then (if t222 = 0 then (accountingref12_Balanced.l0 k1 l0 t217 (wrap64 (x4_1 + 1))) else (some false)) else (some false)) = some r := by rw [if_pos rfl] at H; exact H
    clear H
    have H := H1
    clear H1
    by_cases c8 : t221 = 0
    rotate_left
    ·rw [if_neg c8] at H
     have c8b0 : (t221 == 0) = false := beq_eq_false_iff_ne.mpr c8
     have c8b1 : (t221 != 0) = true := bne_iff_ne.mpr c8
     obtain rfl := Option.some.inj H
     obtain ⟨Ao14, co14, eo14⟩ := Kd.R_slice HO_3.out
     subst eo14
     have p220 : 0 ≤ (x4_1 : Int) := odt_
     have q220 : x4_1 < (t217.length : Int) := odt_
     obtain ⟨ad220, e220, hx220_0⟩ := Kd.at_string (Kd.R_reads' HO_3.out).2.2 x4_1 p220 q220
     cases e220
     replace p220 := eq_true p220
     replace q220 := eq_true q220
     go_wp2_with (first | ((with_reducible refine gate_callee (f := 144) rfl ?_); refine goesL_ (some 22) rfl rfl Tryd.func144 (by kernel_rfl) rfl #[.slice A0 l0.length c0, .string (rdOf ByteArray.empty t217 x4_1)] rfl ml_ ?_; (with_reducible refine (accountingref12_sums.calls k1 _ _ l0 (rdOf ByteArray.empty t217 x4_1) t221 t222 true _ ?side1 ?side2 A6.out).mono ?_); (case side1 => repeat (first | exact (Kd.C_below HR0.out HB.out) | exact (Kd.C_drewN (Kd.C_below HR0.out HB.out) _) | (with_reducible refine Kd.C_alloc ?_ _) | (with_reducible refine Kd.C_drewN ?_ _) | (with_reducible refine Kd.C_drew ?_))); (case side2 => exact HC0.out); rintro e w15 ⟨rfl, hb⟩; refine ⟨_, rfl, ?_⟩; have n0_ := Aside0.mk (Kd.R_below (by (with_reducible repeat (first | apply Kd.R_alloc | apply Kd.R_drewN | apply Kd.R_drew)); exact HO_3.out) hb); have n1_ := Aside0.mk (below_step (bw_) hb); clear HO_3; clear HB; have HO_3 := n0_; have HB := n1_; clear n0_ n1_; (try clear hb); (try clear hb2); (try clear hk); (try clear hi)))
     go_ret
     exact ⟨ew_, bw_⟩
    rw [if_pos c8] at H
    have c8b0 : (t221 == 0) = true := beq_iff_eq.mpr c8
    have c8b1 : (t221 != 0) = false := bne_eq_false_iff_eq.mpr c8
    clear c8
    by_cases c9 : t222 = 0
    ·rw [if_pos c9] at H
     have c9b0 : (t222 == 0) = true := beq_iff_eq.mpr c9
     have c9b1 : (t222 != 0) = false := bne_eq_false_iff_eq.mpr c9
     clear c9
     have H' := Aside0.mk H
     clear H
     obtain ⟨Ao10, co10, eo10⟩ := Kd.R_slice HO_3.out
     subst eo10
     have p220 : 0 ≤ (x4_1 : Int) := odt_
     have q220 : x4_1 < (t217.length : Int) := odt_
     obtain ⟨ad220, e220, hx220_0⟩ := Kd.at_string (Kd.R_reads' HO_3.out).2.2 x4_1 p220 q220
     cases e220
     replace p220 := eq_true p220
     replace q220 := eq_true q220
     go_wp2_with (first | ((with_reducible refine gate_callee (f := 144) rfl ?_); refine goesL_ (some 22) rfl rfl Tryd.func144 (by kernel_rfl) rfl #[.slice A0 l0.length c0, .string (rdOf ByteArray.empty t217 x4_1)] rfl ml_ ?_; (with_reducible refine (accountingref12_sums.calls k1 _ _ l0 (rdOf ByteArray.empty t217 x4_1) t221 t222 true _ ?side1 ?side2 A6.out).mono ?_); (case side1 => repeat (first | exact (Kd.C_below HR0.out HB.out) | exact (Kd.C_drewN (Kd.C_below HR0.out HB.out) _) | (with_reducible refine Kd.C_alloc ?_ _) | (with_reducible refine Kd.C_drewN ?_ _) | (with_reducible refine Kd.C_drew ?_))); (case side2 => exact HC0.out); rintro e w11 ⟨rfl, hb⟩; refine ⟨_, rfl, ?_⟩; have n0_ := Aside0.mk (Kd.R_below (by (with_reducible repeat (first | apply Kd.R_alloc | apply Kd.R_drewN | apply Kd.R_drew)); exact HO_3.out) hb); have n1_ := Aside0.mk (below_step (bw_) hb); clear HO_3; clear HB; have HO_3 := n0_; have HB := n1_; clear n0_ n1_; (try clear hb); (try clear hb2); (try clear hk); (try clear hi)))
     go_roundg k1
     case measure => have := HK1.out; omega
     case rel => exact ⟨(wrap64 (x4_1 + 1)), sm_, H', ⟨by have := HK1.out; omega⟩, ⟨by (with_reducible repeat (first | apply Kd.R_alloc | apply Kd.R_drewN | apply Kd.R_drew)); exact HO_3.out⟩, ⟨bw_⟩⟩
    rw [if_neg c9] at H
    have c9b0 : (t222 == 0) = false := beq_eq_false_iff_ne.mpr c9
    have c9b1 : (t222 != 0) = true := bne_iff_ne.mpr c9
    obtain rfl := Option.some.inj H
    obtain ⟨Ao12, co12, eo12⟩ := Kd.R_slice HO_3.out
    subst eo12
    have p220 : 0 ≤ (x4_1 : Int) := odt_
    have q220 : x4_1 < (t217.length : Int) := odt_
    obtain ⟨ad220, e220, hx220_0⟩ := Kd.at_string (Kd.R_reads' HO_3.out).2.2 x4_1 p220 q220
    cases e220
    replace p220 := eq_true p220
    replace q220 := eq_true q220
    go_wp2_with (first | ((with_reducible refine gate_callee (f := 144) rfl ?_); refine goesL_ (some 22) rfl rfl Tryd.func144 (by kernel_rfl) rfl #[.slice A0 l0.length c0, .string (rdOf ByteArray.empty t217 x4_1)] rfl ml_ ?_; (with_reducible refine (accountingref12_sums.calls k1 _ _ l0 (rdOf ByteArray.empty t217 x4_1) t221 t222 true _ ?side1 ?side2 A6.out).mono ?_); (case side1 => repeat (first | exact (Kd.C_below HR0.out HB.out) | exact (Kd.C_drewN (Kd.C_below HR0.out HB.out) _) | (with_reducible refine Kd.C_alloc ?_ _) | (with_reducible refine Kd.C_drewN ?_ _) | (with_reducible refine Kd.C_drew ?_))); (case side2 => exact HC0.out); rintro e w13 ⟨rfl, hb⟩; refine ⟨_, rfl, ?_⟩; have n0_ := Aside0.mk (Kd.R_below (by (with_reducible repeat (first | apply Kd.R_alloc | apply Kd.R_drewN | apply Kd.R_drew)); exact HO_3.out) hb); have n1_ := Aside0.mk (below_step (bw_) hb); clear HO_3; clear HB; have HO_3 := n0_; have HB := n1_; clear n0_ n1_; (try clear hb); (try clear hb2); (try clear hk); (try clear hi)))
    go_ret
    exact ⟨ew_, bw_⟩
   ·rw [if_neg c4] at H
    have c4b0 : decide (x4_1 < (t217.length : Int)) = false := decide_eq_false c4
    clear c4
    obtain rfl := Option.some.inj H
    obtain ⟨Ao18, co18, eo18⟩ := Kd.R_slice HO_3.out
    subst eo18
    go_wp2
    go_ret
    exact ⟨ew_, bw_⟩
def accountingref12_Check.l0 : Nat → Int → Int → ByteArray → Int → Int → Int → ByteArray → ByteArray → Int → List (S109) → Option (Int × Int)
 | 0, _, _, _, _, _, _, _, _, _, _ => none
 | k + 1, x5, x225000, x225001, x225002, x225003, x225004, x225005, x225006, x225007, x225008 => if x5 < (x225008.length : Int) then (if 0 ≤ x5 then ((accountingref12_Line.f k ((rd_T109 x225008 x5).f0) ((rd_T109 x225008 x5).f1) ((rd_T109 x225008 x5).f2) ((rd_T109 x225008 x5).f3) ((rd_T109 x225008 x5).f4) ((rd_T109 x225008 x5).f5) ((rd_T109 x225008 x5).f6)).bind fun t227 => (if t227 = 0 then (accountingref12_Check.l0 k (wrap64 (x5 + 1)) x225000 x225001 x225002 x225003 x225004 x225005 x225006 x225007 x225008) else (some (x5, t227)))) else (none)) else ((accountingref12_Balanced.f k x225008).bind fun t228 => (if t228 = true then (some ((-1), 0)) else (some ((-1), 15))))
def accountingref12_Check.f (k : Nat) (a0_0 : Int) (a0_1 : ByteArray) (a0_2 : Int) (a0_3 : Int) (a0_4 : Int) (a0_5 : ByteArray) (a0_6 : ByteArray) (a0_7 : Int) (l0_8 : List (S109)) : Option (Int × Int) := (accountingref12_head.f k a0_0 a0_1 a0_2 a0_3 a0_4 a0_5 a0_6 a0_7 l0_8).bind fun t225 => (if t225 = 0 then (accountingref12_Check.l0 k 0 a0_0 a0_1 a0_2 a0_3 a0_4 a0_5 a0_6 a0_7 l0_8) else (some ((-1), t225)))
set_option maxHeartbeats 8000000 in
set_option maxRecDepth 100000 in
theorem accountingref12_Check.calls (k : Nat) (a0_0 : Int) (a0_1 : ByteArray) (a0_2 : Int) (a0_3 : Int) (a0_4 : Int) (a0_5 : ByteArray) (a0_6 : ByteArray) (a0_7 : Int) (A0_8 : Option Addr) (c0_8 : Nat) (l0_8 : List (S109)) (r1 : Int) (r2 : Int) (w : World) (hr0_8 : Kd.C k109 w A0_8 l0_8.length l0_8) (hc0_8 : l0_8.length ≤ c0_8) (h : accountingref12_Check.f k a0_0 a0_1 a0_2 a0_3 a0_4 a0_5 a0_6 a0_7 l0_8 = some (r1, r2)) :
  Calls Tryd.prog 53 #[.agg #[.int .i64 a0_0, .string a0_1, .int .i64 a0_2, .int .i64 a0_3, .int .i64 a0_4, .string a0_5, .string a0_6, .int .i64 a0_7, .slice A0_8 l0_8.length c0_8]] w fun e w' => e = .returned (.tuple #[.int .i64 r1, .int .i64 r2]) ∧ Below w.heap.size w w' := by
 have hu29 := Tryd.underlying29
 have hu109 := Tryd.underlying109
 have HR0_8 := Aside0.mk hr0_8
 have HC0_8 := Aside0.mk hc0_8
 clear hr0_8 hc0_8
 have HB := Aside0.mk (Below.refl w.heap.size w)
 have H : ((accountingref12_head.f k a0_0 a0_1 a0_2 a0_3 a0_4 a0_5 a0_6 a0_7 l0_8).bind fun t225 => (if t225 = 0 then (accountingref12_Check.l0 k 0 a0_0 a0_1 a0_2 a0_3 a0_4 a0_5 a0_6 a0_7 l0_8) else (some ((-1), t225)))) = some (r1, r2) := h
 clear h
 replace H := Option.bind_eq_some_iff.mp H
 obtain ⟨t225, A20, H⟩ := H
 try dsimp only at H
 have A2 := Aside0.mk A20
 clear A20
 by_cases c3 : t225 = 0
 ·rw [if_pos c3] at H
  have c3b0 : (t225 == 0) = true := beq_iff_eq.mpr c3
  have c3b1 : (t225 != 0) = false := bne_eq_false_iff_eq.mpr c3
  clear c3
  have H' := Aside0.mk H
  clear H
  go_enter Tryd.func53, Tryd.ntmps53
  go_wp2_with (first | ((with_reducible refine gate_dst (N := 1) rfl ?_); refine box_event ?hg (N := 1) ?hd (cs := #[.int .i64 a0_0, .string a0_1, .int .i64 a0_2, .int .i64 a0_3, .int .i64 a0_4, .string a0_5, .string a0_6, .int .i64 a0_7, .slice A0_8 l0_8.length c0_8]) (t := 29) ?hr ?_; (case hd => rfl); (case hg => rfl); (case hr => first | (go_simp; done) | (go_simp; rfl)); intro gb224 hg w4 hbox hb; have n0_ := Aside0.mk (below_step (bw_) hb); have n1_ := Aside0.mk (hbox); have n2_ := Aside0.mk (gw_ (w := w) hg); have n3_ := Aside0.mk (gw_ (w := w) hg); clear HB; have HB := n0_; have BK224 := n1_; have GW224 := n2_; have GE224 := n3_; clear n0_ n1_ n2_ n3_; clear hb hbox hg; obtain ⟨hcz5_0, hcz5_1, hcz5_2, hcz5_3, hcz5_4, hcz5_5, hcz5_6, hcz5_7, hcz5_8⟩ := bc9_ (w := w4) BK224.out; obtain ⟨hfz5_0, hfz5_1, hfz5_2, hfz5_3, hfz5_4, hfz5_5, hfz5_6, hfz5_7, hfz5_8⟩ := bf9_ BK224.out) | ((with_reducible refine gate_callee (f := 100) rfl ?_); refine goesL_ (some 8) rfl rfl Tryd.func100 (by kernel_rfl) rfl #[.agg #[.int .i64 a0_0, .string a0_1, .int .i64 a0_2, .int .i64 a0_3, .int .i64 a0_4, .string a0_5, .string a0_6, .int .i64 a0_7, .slice A0_8 l0_8.length c0_8]] rfl ml_ ?_; (with_reducible refine (accountingref12_head.calls k a0_0 a0_1 a0_2 a0_3 a0_4 a0_5 a0_6 a0_7 _ _ l0_8 t225 _ ?side1 ?side2 A2.out).mono ?_); (case side1 => repeat (first | exact (Kd.C_below HR0_8.out HB.out) | (with_reducible refine Kd.C_alloc ?_ _) | (with_reducible refine Kd.C_drewN ?_ _) | (with_reducible refine Kd.C_drew ?_))); (case side2 => exact HC0_8.out); rintro e w6 ⟨rfl, hb⟩; refine ⟨_, rfl, ?_⟩; have n0_ := Aside0.mk (bb_ BK224 hb); have n1_ := Aside0.mk (below_step (bwx_) hb); clear BK224; clear HB; have BK224 := n0_; have HB := n1_; clear n0_ n1_; (try clear hb); (try clear hb2); (try clear hk); (try clear hi)))
  go_loopg [5] k (fun kq v5 w' => ∃ (x5_1 : Int), v5 = .int .i64 x5_1 ∧ Aside0 (accountingref12_Check.l0 kq x5_1 a0_0 a0_1 a0_2 a0_3 a0_4 a0_5 a0_6 a0_7 l0_8 = some (r1, r2)) ∧ Aside0 (kq ≤ k) ∧ Aside0 (w'.heap[gb224]? = some (.cells #[.int .i64 a0_0, .string a0_1, .int .i64 a0_2, .int .i64 a0_3, .int .i64 a0_4, .string a0_5, .string a0_6, .int .i64 a0_7, (.slice A0_8 l0_8.length c0_8)] 29 (0, 0))) ∧ Aside0 (Below w.heap.size w w'))
  case atStart => exact ⟨(0), sm_, H', ⟨Nat.le_refl _⟩, ⟨by (with_reducible repeat (first | refine blk_drewN ?_ _ | refine blk_drew ?_ | refine blk_alloc ?_ _)); exact BK224.out⟩, ⟨bwx_⟩⟩
  case round =>
   clear H'
   try clear c1
   try clear p2
   try clear c3
   try clear c3b0
   try clear c3b1
   try clear c5
   try clear hcz5_0 hcz5_1 hcz5_2 hcz5_3 hcz5_4 hcz5_5 hcz5_6 hcz5_7 hcz5_8
   try clear hfz5_0 hfz5_1 hfz5_2 hfz5_3 hfz5_4 hfz5_5 hfz5_6 hfz5_7 hfz5_8
   obtain ⟨x5_1, rfl, HA, HK1, BK224, HB⟩ := hrel
   cases gk with
   | zero => exact absurd HA.out (by simp [accountingref12_Check.l0])
   | succ k1 =>
    have H := HA.out
    clear HA
    simp only [accountingref12_Check.l0] at H
    by_cases c7 : x5_1 < (l0_8.length : Int)
    rotate_left
    ·rw [if_neg c7] at H
     have c7b0 : decide (x5_1 < (l0_8.length : Int)) = false := decide_eq_false c7
     clear c7
     replace H := Option.bind_eq_some_iff.mp H
     obtain ⟨t228, A150, H⟩ := H
     replace H : (if t228 = true then (some ((-1), 0)) else (some ((-1), 15))) = some (r1, r2) := H
     have A15 := Aside0.mk A150
     clear A150
     by_cases c16 : t228 = true
     ·subst c16
      have H1 : (some ((-1), 0)) = some (r1, r2) := by rw [if_pos rfl] at H; exact H
      clear H
      have H := H1
      clear H1
      simp only [Option.some.injEq, Prod.mk.injEq] at H
      obtain ⟨rfl, rfl⟩ := H
      obtain ⟨hcz17_0, hcz17_1, hcz17_2, hcz17_3, hcz17_4, hcz17_5, hcz17_6, hcz17_7, hcz17_8⟩ := bc9_ (w := wr) BK224.out
      obtain ⟨hfz17_0, hfz17_1, hfz17_2, hfz17_3, hfz17_4, hfz17_5, hfz17_6, hfz17_7, hfz17_8⟩ := bf9_ BK224.out
      go_wp2_with (first | ((with_reducible refine gate_callee (f := 102) rfl ?_); refine goesL_ (some 31) rfl rfl Tryd.func102 (by kernel_rfl) rfl #[.slice A0_8 l0_8.length c0_8] rfl ml_ ?_; (with_reducible refine (accountingref12_Balanced.calls k1 _ _ l0_8 true _ ?side1 ?side2 A15.out).mono ?_); (case side1 => repeat (first | exact (Kd.C_below HR0_8.out HB.out) | (with_reducible refine Kd.C_alloc ?_ _) | (with_reducible refine Kd.C_drewN ?_ _) | (with_reducible refine Kd.C_drew ?_))); (case side2 => exact HC0_8.out); rintro e w18 ⟨rfl, hb⟩; refine ⟨_, rfl, ?_⟩; have n0_ := Aside0.mk (bb_ BK224 hb); have n1_ := Aside0.mk (below_step (bwx_) hb); clear BK224; clear HB; have BK224 := n0_; have HB := n1_; clear n0_ n1_; (try clear hb); (try clear hb2); (try clear hk); (try clear hi)))
      go_ret2
      exact ⟨ew_, bwx_⟩
     replace c16 := Bool.eq_false_iff.mpr c16
     subst c16
     have H1 : (some ((-1), 15)) = some (r1, r2) := by rw [if_neg (show ¬ (false = true) by decide)] at H; exact H
     clear H
     have H := H1
     clear H1
     simp only [Option.some.injEq, Prod.mk.injEq] at H
     obtain ⟨rfl, rfl⟩ := H
     obtain ⟨hcz19_0, hcz19_1, hcz19_2, hcz19_3, hcz19_4, hcz19_5, hcz19_6, hcz19_7, hcz19_8⟩ := bc9_ (w := wr) BK224.out
     obtain ⟨hfz19_0, hfz19_1, hfz19_2, hfz19_3, hfz19_4, hfz19_5, hfz19_6, hfz19_7, hfz19_8⟩ := bf9_ BK224.out
     go_wp2_with (first | ((with_reducible refine gate_callee (f := 102) rfl ?_); refine goesL_ (some 31) rfl rfl Tryd.func102 (by kernel_rfl) rfl #[.slice A0_8 l0_8.length c0_8] rfl ml_ ?_; (with_reducible refine (accountingref12_Balanced.calls k1 _ _ l0_8 false _ ?side1 ?side2 A15.out).mono ?_); (case side1 => repeat (first | exact (Kd.C_below HR0_8.out HB.out) | (with_reducible refine Kd.C_alloc ?_ _) | (with_reducible refine Kd.C_drewN ?_ _) | (with_reducible refine Kd.C_drew ?_))); (case side2 => exact HC0_8.out); rintro e w20 ⟨rfl, hb⟩; refine ⟨_, rfl, ?_⟩; have n0_ := Aside0.mk (bb_ BK224 hb); have n1_ := Aside0.mk (below_step (bwx_) hb); clear BK224; clear HB; have BK224 := n0_; have HB := n1_; clear n0_ n1_; (try clear hb); (try clear hb2); (try clear hk); (try clear hi)))
     go_ret2
     exact ⟨ew_, bwx_⟩
    rw [if_pos c7] at H
    have c7b0 : decide (x5_1 < (l0_8.length : Int)) = true := decide_eq_true c7
    clear c7
    by_cases c8 : 0 ≤ x5_1
    rotate_left
    ·rw [if_neg c8] at H
     exact absurd H (by simp)
    rw [if_pos c8] at H
    have c8b0 : decide (0 ≤ x5_1) = true := decide_eq_true c8
    clear c8
    replace H := Option.bind_eq_some_iff.mp H
    obtain ⟨t227, A90, H⟩ := H
    try dsimp only at H
    have A9 := Aside0.mk A90
    clear A90
    by_cases c10 : t227 = 0
    ·rw [if_pos c10] at H
     have c10b0 : (t227 == 0) = true := beq_iff_eq.mpr c10
     have c10b1 : (t227 != 0) = false := bne_eq_false_iff_eq.mpr c10
     clear c10
     have H' := Aside0.mk H
     clear H
     obtain ⟨hcz11_0, hcz11_1, hcz11_2, hcz11_3, hcz11_4, hcz11_5, hcz11_6, hcz11_7, hcz11_8⟩ := bc9_ (w := wr) BK224.out
     obtain ⟨hfz11_0, hfz11_1, hfz11_2, hfz11_3, hfz11_4, hfz11_5, hfz11_6, hfz11_7, hfz11_8⟩ := bf9_ BK224.out
     have p226 : 0 ≤ (x5_1 : Int) := odt_
     have q226 : x5_1 < (l0_8.length : Int) := odt_
     obtain ⟨ad226, A226_6, c226_6, e226, hx226_0, hx226_1, hx226_2, hx226_3, hx226_4, hx226_5, hx226_6, hl226_6, hi226_6⟩ := at_T109 HR0_8.out x5_1 p226 q226
     cases e226
     replace hx226_0 := bcl_ HB hx226_0
     replace hx226_1 := bcl_ HB hx226_1
     replace hx226_2 := bcl_ HB hx226_2
     replace hx226_3 := bcl_ HB hx226_3
     replace hx226_4 := bcl_ HB hx226_4
     replace hx226_5 := bcl_ HB hx226_5
     replace hx226_6 := bcl_ HB hx226_6
     have HR226_6 := Aside0.mk hi226_6
     have HC226_6 := Aside0.mk hl226_6
     clear hi226_6 hl226_6
     replace p226 := eq_true p226
     replace q226 := eq_true q226
     go_wp2_with (first | ((with_reducible refine gate_callee (f := 101) rfl ?_); refine goesL_ (some 24) rfl rfl Tryd.func101 (by kernel_rfl) rfl #[.agg #[.string ((rd_T109 l0_8 x5_1).f0), .string ((rd_T109 l0_8 x5_1).f1), .int .i64 ((rd_T109 l0_8 x5_1).f2), .int .i64 ((rd_T109 l0_8 x5_1).f3), .string ((rd_T109 l0_8 x5_1).f4), .string ((rd_T109 l0_8 x5_1).f5), .slice A226_6 ((rd_T109 l0_8 x5_1).f6).length c226_6]] rfl ml_ ?_; (with_reducible refine (accountingref12_Line.calls k1 ((rd_T109 l0_8 x5_1).f0) ((rd_T109 l0_8 x5_1).f1) ((rd_T109 l0_8 x5_1).f2) ((rd_T109 l0_8 x5_1).f3) ((rd_T109 l0_8 x5_1).f4) ((rd_T109 l0_8 x5_1).f5) _ _ ((rd_T109 l0_8 x5_1).f6) t227 _ ?side1 ?side2 A9.out).mono ?_); (case side1 => repeat (first | exact (Kd.C_below HR226_6.out HB.out) | (with_reducible refine Kd.C_alloc ?_ _) | (with_reducible refine Kd.C_drewN ?_ _) | (with_reducible refine Kd.C_drew ?_))); (case side2 => exact HC226_6.out); rintro e w12 ⟨rfl, hb⟩; refine ⟨_, rfl, ?_⟩; have n0_ := Aside0.mk (bb_ BK224 hb); have n1_ := Aside0.mk (below_step (bwx_) hb); clear BK224; clear HB; have BK224 := n0_; have HB := n1_; clear n0_ n1_; (try clear hb); (try clear hb2); (try clear hk); (try clear hi)))
     go_roundg k1
     case measure => have := HK1.out; omega
     case rel => exact ⟨(wrap64 (x5_1 + 1)), sm_, H', ⟨by have := HK1.out; omega⟩, ⟨by (with_reducible repeat (first | refine blk_drewN ?_ _ | refine blk_drew ?_ | refine blk_alloc ?_ _)); exact BK224.out⟩, ⟨bwx_⟩⟩
    rw [if_neg c10] at H
    have c10b0 : (t227 == 0) = false := beq_eq_false_iff_ne.mpr c10
    have c10b1 : (t227 != 0) = true := bne_iff_ne.mpr c10
    simp only [Option.some.injEq, Prod.mk.injEq] at H
    obtain ⟨rfl, rfl⟩ := H
    obtain ⟨hcz13_0, hcz13_1, hcz13_2, hcz13_3, hcz13_4, hcz13_5, hcz13_6, hcz13_7, hcz13_8⟩ := bc9_ (w := wr) BK224.out
    obtain ⟨hfz13_0, hfz13_1, hfz13_2, hfz13_3, hfz13_4, hfz13_5, hfz13_6, hfz13_7, hfz13_8⟩ := bf9_ BK224.out
    have p226 : 0 ≤ (x5_1 : Int) := odt_
    have q226 : x5_1 < (l0_8.length : Int) := odt_
    obtain ⟨ad226, A226_6, c226_6, e226, hx226_0, hx226_1, hx226_2, hx226_3, hx226_4, hx226_5, hx226_6, hl226_6, hi226_6⟩ := at_T109 HR0_8.out x5_1 p226 q226
    cases e226
    replace hx226_0 := bcl_ HB hx226_0
    replace hx226_1 := bcl_ HB hx226_1
    replace hx226_2 := bcl_ HB hx226_2
    replace hx226_3 := bcl_ HB hx226_3
    replace hx226_4 := bcl_ HB hx226_4
    replace hx226_5 := bcl_ HB hx226_5
    replace hx226_6 := bcl_ HB hx226_6
    have HR226_6 := Aside0.mk hi226_6
    have HC226_6 := Aside0.mk hl226_6
    clear hi226_6 hl226_6
    replace p226 := eq_true p226
    replace q226 := eq_true q226
    go_wp2_with (first | ((with_reducible refine gate_callee (f := 101) rfl ?_); refine goesL_ (some 24) rfl rfl Tryd.func101 (by kernel_rfl) rfl #[.agg #[.string ((rd_T109 l0_8 x5_1).f0), .string ((rd_T109 l0_8 x5_1).f1), .int .i64 ((rd_T109 l0_8 x5_1).f2), .int .i64 ((rd_T109 l0_8 x5_1).f3), .string ((rd_T109 l0_8 x5_1).f4), .string ((rd_T109 l0_8 x5_1).f5), .slice A226_6 ((rd_T109 l0_8 x5_1).f6).length c226_6]] rfl ml_ ?_; (with_reducible refine (accountingref12_Line.calls k1 ((rd_T109 l0_8 x5_1).f0) ((rd_T109 l0_8 x5_1).f1) ((rd_T109 l0_8 x5_1).f2) ((rd_T109 l0_8 x5_1).f3) ((rd_T109 l0_8 x5_1).f4) ((rd_T109 l0_8 x5_1).f5) _ _ ((rd_T109 l0_8 x5_1).f6) t227 _ ?side1 ?side2 A9.out).mono ?_); (case side1 => repeat (first | exact (Kd.C_below HR226_6.out HB.out) | (with_reducible refine Kd.C_alloc ?_ _) | (with_reducible refine Kd.C_drewN ?_ _) | (with_reducible refine Kd.C_drew ?_))); (case side2 => exact HC226_6.out); rintro e w14 ⟨rfl, hb⟩; refine ⟨_, rfl, ?_⟩; have n0_ := Aside0.mk (bb_ BK224 hb); have n1_ := Aside0.mk (below_step (bwx_) hb); clear BK224; clear HB; have BK224 := n0_; have HB := n1_; clear n0_ n1_; (try clear hb); (try clear hb2); (try clear hk); (try clear hi)))
    go_ret2
    exact ⟨ew_, bwx_⟩
 ·rw [if_neg c3] at H
  have c3b0 : (t225 == 0) = false := beq_eq_false_iff_ne.mpr c3
  have c3b1 : (t225 != 0) = true := bne_iff_ne.mpr c3
  simp only [Option.some.injEq, Prod.mk.injEq] at H
  obtain ⟨rfl, rfl⟩ := H
  go_enter Tryd.func53, Tryd.ntmps53
  go_wp2_with (first | ((with_reducible refine gate_dst (N := 1) rfl ?_); refine box_event ?hg (N := 1) ?hd (cs := #[.int .i64 a0_0, .string a0_1, .int .i64 a0_2, .int .i64 a0_3, .int .i64 a0_4, .string a0_5, .string a0_6, .int .i64 a0_7, .slice A0_8 l0_8.length c0_8]) (t := 29) ?hr ?_; (case hd => rfl); (case hg => rfl); (case hr => first | (go_simp; done) | (go_simp; rfl)); intro gb224 hg w21 hbox hb; have n0_ := Aside0.mk (below_step (bw_) hb); have n1_ := Aside0.mk (hbox); have n2_ := Aside0.mk (gw_ (w := w) hg); have n3_ := Aside0.mk (gw_ (w := w) hg); clear HB; have HB := n0_; have BK224 := n1_; have GW224 := n2_; have GE224 := n3_; clear n0_ n1_ n2_ n3_; clear hb hbox hg; obtain ⟨hcz22_0, hcz22_1, hcz22_2, hcz22_3, hcz22_4, hcz22_5, hcz22_6, hcz22_7, hcz22_8⟩ := bc9_ (w := w21) BK224.out; obtain ⟨hfz22_0, hfz22_1, hfz22_2, hfz22_3, hfz22_4, hfz22_5, hfz22_6, hfz22_7, hfz22_8⟩ := bf9_ BK224.out) | ((with_reducible refine gate_callee (f := 100) rfl ?_); refine goesL_ (some 8) rfl rfl Tryd.func100 (by kernel_rfl) rfl #[.agg #[.int .i64 a0_0, .string a0_1, .int .i64 a0_2, .int .i64 a0_3, .int .i64 a0_4, .string a0_5, .string a0_6, .int .i64 a0_7, .slice A0_8 l0_8.length c0_8]] rfl ml_ ?_; (with_reducible refine (accountingref12_head.calls k a0_0 a0_1 a0_2 a0_3 a0_4 a0_5 a0_6 a0_7 _ _ l0_8 t225 _ ?side1 ?side2 A2.out).mono ?_); (case side1 => repeat (first | exact (Kd.C_below HR0_8.out HB.out) | (with_reducible refine Kd.C_alloc ?_ _) | (with_reducible refine Kd.C_drewN ?_ _) | (with_reducible refine Kd.C_drew ?_))); (case side2 => exact HC0_8.out); rintro e w23 ⟨rfl, hb⟩; refine ⟨_, rfl, ?_⟩; have n0_ := Aside0.mk (bb_ BK224 hb); have n1_ := Aside0.mk (below_step (bwx_) hb); clear BK224; clear HB; have BK224 := n0_; have HB := n1_; clear n0_ n1_; (try clear hb); (try clear hb2); (try clear hk); (try clear hi)))
  go_ret2
  exact ⟨ew_, bwx_⟩
end Go.Proofs.YtppcjoaghlecmaaDoor.P
namespace Go.Proofs.YtppcjoaghlecmaaDoor.P
open Go.RowKit Go.Proofs.YtppcjoaghlecmaaDoorW.PrintWords Go.Proofs.YtppcjoaghlecmaaDoorW.PrintLast Go.Proofs.YtppcjoaghlecmaaDoorW.PrintMore
set_option linter.unusedVariables false
set_option linter.unusedSimpArgs false
def optB (s : ByteArray) : Bool := s.toList == [] || codeB s
def plainB (s : ByteArray) : Bool := decide (s.size ≤ 60) && allFrom isPrintable s 0
def ws (n m : Int) : Bool := decide (-m ≤ n ∧ n ≤ m)
structure ShortLn (x : S109) : Prop where
 s0 : x.f0.size ≤ 9223372036854775807
 s1 : x.f1.size ≤ 9223372036854775807
 s4 : x.f4.size ≤ 9223372036854775807
 s5 : x.f5.size ≤ 9223372036854775807
 tl : x.f6.length ≤ 9223372036854775807
 ts : shortL x.f6
theorem opt_f (s : ByteArray) : entry_optional.f s = some (optB s) := by
 unfold entry_optional.f optB
 by_cases h : s.toList = []
 ·rw [if_pos h, h]; rfl
 ·rw [if_neg h, beq_eq_false_iff_ne.mpr h, Bool.false_or]
  show (some (codeB s)).bind _ = _
  rfl
theorem ropt_ev (s : ByteArray) (hs : s.size ≤ 9223372036854775807) : Ev (fun k => accountingref12_optional.f k s) (optB s) := by
 unfold accountingref12_optional.f optB
 by_cases h : s.toList = []
 ·simp only [if_pos h, h]
  exact Ev.now _
 ·simp only [if_neg h]
  rw [beq_eq_false_iff_ne.mpr h, Bool.false_or]
  exact (refCode_ev s hs).bind (Ev.now _)
theorem ws_f (n m : Int) (h0 : 0 ≤ m) (h1 : m ≤ 1000000000000000) : entry_within.f n m = some (ws n m) ∧ accountingref12_within.f n m = some (ws n m) := by
 have e : wrap64 (-m) = -m := by unfold wrap64; omega
 unfold entry_within.f accountingref12_within.f ws
 rw [e]
 by_cases h : n ≥ -m
 ·rw [if_pos h]
  have : decide (n ≤ m) = decide (-m ≤ n ∧ n ≤ m) := by rw [Bool.eq_iff_iff, decide_eq_true_iff, decide_eq_true_iff]; omega
  rw [this]
  exact ⟨rfl, rfl⟩
 ·rw [if_neg h, decide_eq_false (show ¬ (-m ≤ n ∧ n ≤ m) by omega)]
  exact ⟨rfl, rfl⟩
theorem plain_l0 (s : ByteArray) (hs : s.size ≤ 9223372036854775807) : ∀ (n i : Nat), s.size - i = n → i ≤ s.size → Ev (fun k => accountingref06_Plain.l0 k s (i : Int)) (decide (s.size ≤ 60) && allFrom isPrintable s i) := by
 intro n
 induction n with
 | zero =>
  intro i hn hi
  obtain rfl : i = s.size := by omega
  refine Ev.step (fun k => accountingref06_Plain.l0.eq_2 _ _ k) ?_
  simp only [if_neg (show ¬ ((s.size : Int) < (s.size : Int)) by omega), allFrom_end, Bool.and_true]
  have : decide ((s.size : Int) ≤ 60) = decide (s.size ≤ 60) := by rw [Bool.eq_iff_iff, decide_eq_true_iff, decide_eq_true_iff]; omega
  rw [this]
  exact Ev.now _
 | succ n ih =>
  intro i hn hi
  have hw : wrap64 ((i : Int) + 1) = ((i + 1 : Nat) : Int) := by rw [w64t (by omega) (by omega)]; omega
  refine Ev.step (fun k => accountingref06_Plain.l0.eq_2 _ _ k) ?_
  simp only [if_pos (show ((i : Int) < (s.size : Int)) by omega), if_pos (show (0 : Int) ≤ (i : Int) by omega), hw]
  rw [allFrom_step isPrintable s i (by omega)]
  by_cases h1 : bt s (i : Int) < 32
  ·simp only [if_pos h1]
   rw [show isPrintable (bt s (i : Int)) = false by unfold isPrintable; rw [decide_eq_false]; omega, Bool.false_and, Bool.and_false]
   exact Ev.now _
  ·simp only [if_neg h1]
   by_cases h2 : bt s (i : Int) > 126
   ·simp only [if_pos h2]
    rw [show isPrintable (bt s (i : Int)) = false by unfold isPrintable; rw [decide_eq_false]; omega, Bool.false_and, Bool.and_false]
    exact Ev.now _
   ·simp only [if_neg h2]
    rw [show isPrintable (bt s (i : Int)) = true by unfold isPrintable; rw [decide_eq_true]; omega, Bool.true_and]
    exact ih (i + 1) (by omega) (by omega)
theorem plain_ev (s : ByteArray) (hs : s.size ≤ 9223372036854775807) : Ev (fun k => accountingref06_Plain.f k s) (plainB s) := plain_l0 s hs _ 0 rfl (Nat.zero_le _)
theorem plain_f (s : ByteArray) : words_Plain.f s = some (plainB s) := rfl
theorem up_bt (s : ByteArray) (i : Nat) (h : i < s.size) : upC s[i] = (decide (65 ≤ bt s (i : Int)) && decide (bt s (i : Int) ≤ 90)) := by
 unfold upC bt
 rw [dif_pos (by simpa using h)]
 simp only [Int.toNat_natCast]
 rw [Bool.eq_iff_iff]
 simp only [Bool.and_eq_true, decide_eq_true_iff]
 omega
theorem mon_l0 (s : ByteArray) (hs : s.size = 3) : ∀ (n i : Nat), s.size - i = n → i ≤ s.size → (∀ j, (hj : j < s.size) → j < i → upC s[j] = true) → Ev (fun k => accountingref07_Code.l0 k s (i : Int)) (monB s) := by
 intro n
 induction n with
 | zero =>
  intro i hn hi hu
  obtain rfl : i = s.size := by omega
  refine Ev.step (fun k => accountingref07_Code.l0.eq_2 _ _ k) ?_
  rw [mon_end (fun j hj => hu j hj hj), decide_eq_true hs]
  simp only [if_neg (show ¬ ((s.size : Int) < 3) by omega)]
  exact Ev.now _
 | succ n ih =>
  intro i hn hi hu
  have hil : i < s.size := by omega
  have hw : wrap64 ((i : Int) + 1) = ((i + 1 : Nat) : Int) := by rw [w64t (by omega) (by omega)]; omega
  have hub := up_bt s i hil
  refine Ev.step (fun k => accountingref07_Code.l0.eq_2 _ _ k) ?_
  simp only [if_pos (show ((i : Int) < 3) by omega), if_pos (show ((i : Int) < (s.size : Int)) by omega), if_pos (show (0 : Int) ≤ (i : Int) by omega), hw]
  by_cases h1 : bt s (i : Int) < 65
  ·simp only [if_pos h1]
   rw [mon_bad hil (by rw [hub, decide_eq_false (by omega), Bool.false_and])]
   exact Ev.now _
  ·simp only [if_neg h1]
   by_cases h2 : bt s (i : Int) > 90
   ·simp only [if_pos h2]
    rw [mon_bad hil (by rw [hub, decide_eq_false (show ¬ bt s (i : Int) ≤ 90 by omega), Bool.and_false])]
    exact Ev.now _
   ·simp only [if_neg h2]
    refine ih (i + 1) (by omega) (by omega) (fun j hj hji => ?_)
    by_cases e : j = i
    ·subst e
     rw [hub, decide_eq_true (by omega), decide_eq_true (by omega)]
     rfl
    ·exact hu j hj (by omega)
theorem mon_ev (s : ByteArray) : Ev (fun k => accountingref07_Code.f k s) (monB s) := by
 unfold accountingref07_Code.f
 by_cases h : s.size = 3
 ·simp only [if_pos (show (s.size : Int) = 3 by omega)]
  exact mon_l0 s h _ 0 rfl (Nat.zero_le _) (fun j _ hj => by omega)
 ·simp only [if_neg (show ¬ (s.size : Int) = 3 by omega)]
  rw [show monB s = false by unfold monB; rw [decide_eq_false h]; rfl]
  exact Ev.now _
def lineE (x : S109) : Int := if (!codeB x.f0 || (!optB x.f4 || !optB x.f5)) = true then 7 else if monB x.f1 = false then 13 else if (!ws x.f2 1000000000000 || !ws x.f3 1000000000000) = true then 4 else if x.f2 = 0 ∧ x.f3 = 0 then 2 else if rightT x.f6 = false then 14 else 0
def lineJ1 (b : Bool) (x : S109) : Int := if b = true then 4 else if x.f2 = 0 ∧ x.f3 = 0 then 2 else if rightT x.f6 = false then 14 else 0
def lineJ0 (b : Bool) (x : S109) : Int := if b = true then 7 else if monB x.f1 = false then 13 else lineJ1 (!ws x.f2 1000000000000 || !ws x.f3 1000000000000) x
theorem lineE_j0 (x : S109) : lineE x = lineJ0 (!codeB x.f0 || (!optB x.f4 || !optB x.f5)) x := rfl
theorem line_j2 (b : Bool) (x : S109) : Ev (fun k => entry_Line.j2 k b x.f0 x.f1 x.f2 x.f3 x.f4 x.f5 x.f6) (if b = true then 2 else if rightT x.f6 = false then 14 else 0) := by
 refine Ev.step (fun k => entry_Line.j2.eq_2 _ _ _ _ _ _ _ _ k) ?_
 cases b
 ·simp only [Bool.false_eq_true, if_false]
  refine Ev.bind (Right_ev x.f6) ?_
  cases rightT x.f6 <;> exact Ev.now _
 ·exact Ev.now _
theorem line_j1 (b : Bool) (x : S109) : Ev (fun k => entry_Line.j1 k b x.f0 x.f1 x.f2 x.f3 x.f4 x.f5 x.f6) (lineJ1 b x) := by
 refine Ev.step (fun k => entry_Line.j1.eq_2 _ _ _ _ _ _ _ _ k) ?_
 unfold lineJ1
 cases b
 ·simp only [Bool.false_eq_true, if_false]
  by_cases h2 : x.f2 = 0
  ·simp only [if_pos h2]
   have := line_j2 (x.f3 == 0) x
   by_cases h3 : x.f3 = 0
   ·rw [if_pos ⟨h2, h3⟩]
    rwa [show (x.f3 == 0) = true from beq_iff_eq.mpr h3, if_pos rfl, ← show (x.f3 == 0) = true from beq_iff_eq.mpr h3] at this
   ·rw [if_neg (fun h => h3 h.2)]
    rwa [if_neg (by simpa using h3)] at this
  ·simp only [if_neg h2]
   rw [if_neg (fun h => h2 h.1)]
   exact line_j2 false x
 ·exact Ev.now _
theorem line_j0 (b : Bool) (x : S109) (hm : x.f1.size ≤ maxLen) : Ev (fun k => entry_Line.j0 k b x.f0 x.f1 x.f2 x.f3 x.f4 x.f5 x.f6) (lineJ0 b x) := by
 refine Ev.step (fun k => entry_Line.j0.eq_2 _ _ _ _ _ _ _ _ k) ?_
 unfold lineJ0
 cases b
 ·simp only [Bool.false_eq_true, if_false]
  unfold money_Code.f
  simp only [if_pos hm, Option.bind_some, (ws_f x.f2 1000000000000 (by omega) (by omega)).1, (ws_f x.f3 1000000000000 (by omega) (by omega)).1]
  cases monB x.f1
  ·exact Ev.now _
  ·simp only [if_true, Bool.true_eq_false, if_false]
   cases ws x.f2 1000000000000
   ·exact line_j1 true x
   ·simp only [if_true, Bool.not_true, Bool.false_or]
    exact line_j1 _ x
 ·exact Ev.now _
theorem line_ev (x : S109) (hm : x.f1.size ≤ maxLen) : Ev (fun k => entry_Line.f k x.f0 x.f1 x.f2 x.f3 x.f4 x.f5 x.f6) (lineE x) := by
 rw [lineE_j0]
 unfold entry_Line.f
 simp only [words_Code_f, opt_f, Option.bind_some]
 cases codeB x.f0
 ·exact line_j0 true x hm
 ·simp only [if_true, Bool.not_true, Bool.false_or]
  cases optB x.f4
  ·exact line_j0 true x hm
  ·simp only [if_true, Bool.not_true, Bool.false_or]
   exact line_j0 _ x hm
theorem rline_j2 (b : Bool) (x : S109) (hx : ShortLn x) : Ev (fun k => accountingref12_Line.j2 k b x.f0 x.f1 x.f2 x.f3 x.f4 x.f5 x.f6) (if b = true then 2 else if rightT x.f6 = false then 14 else 0) := by
 refine Ev.step (fun k => accountingref12_Line.j2.eq_2 _ _ _ _ _ _ _ _ k) ?_
 cases b
 ·simp only [Bool.false_eq_true, if_false]
  refine Ev.bind (refRight_ev x.f6 hx.tl hx.ts) ?_
  cases rightT x.f6 <;> exact Ev.now _
 ·exact Ev.now _
theorem rline_j1 (b : Bool) (x : S109) (hx : ShortLn x) : Ev (fun k => accountingref12_Line.j1 k b x.f0 x.f1 x.f2 x.f3 x.f4 x.f5 x.f6) (lineJ1 b x) := by
 refine Ev.step (fun k => accountingref12_Line.j1.eq_2 _ _ _ _ _ _ _ _ k) ?_
 unfold lineJ1
 cases b
 ·simp only [Bool.false_eq_true, if_false]
  by_cases h2 : x.f2 = 0
  ·simp only [if_pos h2]
   have := rline_j2 (x.f3 == 0) x hx
   by_cases h3 : x.f3 = 0
   ·rw [if_pos ⟨h2, h3⟩]
    rwa [show (x.f3 == 0) = true from beq_iff_eq.mpr h3, if_pos rfl, ← show (x.f3 == 0) = true from beq_iff_eq.mpr h3] at this
   ·rw [if_neg (fun h => h3 h.2)]
    rwa [if_neg (by simpa using h3)] at this
  ·simp only [if_neg h2]
   rw [if_neg (fun h => h2 h.1)]
   exact rline_j2 false x hx
 ·exact Ev.now _
theorem rline_j0 (b : Bool) (x : S109) (hx : ShortLn x) : Ev (fun k => accountingref12_Line.j0 k b x.f0 x.f1 x.f2 x.f3 x.f4 x.f5 x.f6) (lineJ0 b x) := by
 refine Ev.step (fun k => accountingref12_Line.j0.eq_2 _ _ _ _ _ _ _ _ k) ?_
 unfold lineJ0
 cases b
 ·simp only [Bool.false_eq_true, if_false]
  refine Ev.bind (mon_ev x.f1) ?_
  simp only [Option.bind_some, (ws_f x.f2 1000000000000 (by omega) (by omega)).2, (ws_f x.f3 1000000000000 (by omega) (by omega)).2]
  cases monB x.f1
  ·exact Ev.now _
  ·simp only [if_true, Bool.true_eq_false, if_false]
   cases ws x.f2 1000000000000
   ·exact rline_j1 true x hx
   ·simp only [if_true, Bool.not_true, Bool.false_or]
    exact rline_j1 _ x hx
 ·exact Ev.now _
theorem rline_ev (x : S109) (hx : ShortLn x) : Ev (fun k => accountingref12_Line.f k x.f0 x.f1 x.f2 x.f3 x.f4 x.f5 x.f6) (lineE x) := by
 rw [lineE_j0]
 unfold accountingref12_Line.f
 refine Ev.bind (refCode_ev _ hx.s0) ?_
 cases codeB x.f0
 ·exact rline_j0 true x hx
 ·simp only [if_true, Bool.not_true, Bool.false_or]
  refine Ev.bind (ropt_ev _ hx.s4) ?_
  cases optB x.f4
  ·exact rline_j0 true x hx
  ·simp only [if_true, Bool.not_true, Bool.false_or]
   refine Ev.bind (ropt_ev _ hx.s5) ?_
   exact rline_j0 _ x hx
def headJ3 (b : Bool) (x : S29) : Int := if b = true then 10 else if plainB x.f5 = false then 5 else if x.f8.length < 2 then 2 else if x.f8.length > 100 then 9 else 0
def headJ2 (b : Bool) (x : S29) : Int := if b = true then 11 else headJ3 (decide (x.f4 < 1 ∨ x.f4 > 7)) x
def headJ1 (b : Bool) (x : S29) : Int := if b = true then 7 else headJ2 (!dayB x.f2 || !dayB x.f3) x
def headJ0 (b : Bool) (x : S29) : Int := if b = true then 3 else headJ1 (!codeB x.f1 || !codeB x.f6) x
def headE (x : S29) : Int := headJ0 (decide (x.f0 < 0 ∨ x.f0 > 4000 ∨ x.f7 < 0 ∨ x.f7 > 4000)) x
theorem isDay_ev' (n : Int) : Ev (fun k => entry_isDay.f k n) (dayB n) := isDay_ev n
theorem head_tail (x : S29) (b : Bool) : (if b = true then (if (x.f8.length : Int) < 2 then (some 2 : Option Int) else (if (x.f8.length : Int) > 100 then (some 9) else (some 0))) else some 5) = some (if b = false then 5 else if x.f8.length < 2 then 2 else if x.f8.length > 100 then 9 else 0) := by
 cases b
 ·rfl
 ·simp only [if_true, Bool.true_eq_false, if_false]
  by_cases h1 : x.f8.length < 2
  ·rw [if_pos (show (x.f8.length : Int) < 2 by omega), if_pos h1]
  ·rw [if_neg (show ¬ (x.f8.length : Int) < 2 by omega), if_neg h1]
   by_cases h2 : x.f8.length > 100
   ·rw [if_pos (show (x.f8.length : Int) > 100 by omega), if_pos h2]
   ·rw [if_neg (show ¬ (x.f8.length : Int) > 100 by omega), if_neg h2]
theorem head_j3 (b : Bool) (x : S29) : Ev (fun k => entry_head.j3 k b x.f0 x.f1 x.f2 x.f3 x.f4 x.f5 x.f6 x.f7 x.f8) (headJ3 b x) := by
 refine Ev.step (fun k => entry_head.j3.eq_2 _ _ _ _ _ _ _ _ _ _ k) ?_
 unfold headJ3
 cases b
 ·simp only [Bool.false_eq_true, if_false, plain_f, Option.bind_some, head_tail]
  exact Ev.now _
 ·exact Ev.now _
theorem head_j2 (b : Bool) (x : S29) : Ev (fun k => entry_head.j2 k b x.f0 x.f1 x.f2 x.f3 x.f4 x.f5 x.f6 x.f7 x.f8) (headJ2 b x) := by
 refine Ev.step (fun k => entry_head.j2.eq_2 _ _ _ _ _ _ _ _ _ _ k) ?_
 unfold headJ2
 cases b
 ·simp only [Bool.false_eq_true, if_false]
  by_cases h : x.f4 < 1
  ·simp only [if_pos h]
   rw [decide_eq_true (Or.inl h : x.f4 < 1 ∨ x.f4 > 7)]
   exact head_j3 true x
  ·simp only [if_neg h]
   rw [show decide (x.f4 < 1 ∨ x.f4 > 7) = decide (x.f4 > 7) from by rw [decide_eq_decide]; omega]
   exact head_j3 _ x
 ·exact Ev.now _
theorem head_j1 (b : Bool) (x : S29) : Ev (fun k => entry_head.j1 k b x.f0 x.f1 x.f2 x.f3 x.f4 x.f5 x.f6 x.f7 x.f8) (headJ1 b x) := by
 refine Ev.step (fun k => entry_head.j1.eq_2 _ _ _ _ _ _ _ _ _ _ k) ?_
 unfold headJ1
 cases b
 ·simp only [Bool.false_eq_true, if_false]
  refine Ev.bind (isDay_ev' x.f2) ?_
  cases dayB x.f2
  ·exact head_j2 true x
  ·simp only [if_true, Bool.not_true, Bool.false_or]
   refine Ev.bind (isDay_ev' x.f3) ?_
   exact head_j2 _ x
 ·exact Ev.now _
theorem head_j0 (b : Bool) (x : S29) : Ev (fun k => entry_head.j0 k b x.f0 x.f1 x.f2 x.f3 x.f4 x.f5 x.f6 x.f7 x.f8) (headJ0 b x) := by
 refine Ev.step (fun k => entry_head.j0.eq_2 _ _ _ _ _ _ _ _ _ _ k) ?_
 unfold headJ0
 cases b
 ·simp only [Bool.false_eq_true, if_false, words_Code_f, Option.bind_some]
  cases codeB x.f1
  ·exact head_j1 true x
  ·simp only [if_true, Bool.not_true, Bool.false_or]
   exact head_j1 _ x
 ·exact Ev.now _
theorem head_ev (x : S29) : Ev (fun k => entry_head.f k x.f0 x.f1 x.f2 x.f3 x.f4 x.f5 x.f6 x.f7 x.f8) (headE x) := by
 unfold entry_head.f headE
 by_cases h1 : x.f0 < 0
 ·simp only [if_pos h1]; rw [decide_eq_true (by omega)]; exact head_j0 true x
 simp only [if_neg h1]
 by_cases h2 : x.f0 > 4000
 ·simp only [if_pos h2]; rw [decide_eq_true (by omega)]; exact head_j0 true x
 simp only [if_neg h2]
 by_cases h3 : x.f7 < 0
 ·simp only [if_pos h3]; rw [decide_eq_true (by omega)]; exact head_j0 true x
 simp only [if_neg h3]
 rw [show decide (x.f0 < 0 ∨ x.f0 > 4000 ∨ x.f7 < 0 ∨ x.f7 > 4000) = decide (x.f7 > 4000) from by rw [decide_eq_decide]; omega]
 exact head_j0 _ x
theorem rday_f (n : Int) : accountingref12_day.f n = some (dayB n) := by
 unfold accountingref12_day.f dayB
 by_cases h : n ≥ 0
 ·rw [if_pos h]; congr 1; rw [decide_eq_decide]; omega
 ·rw [if_neg h]; congr 1; rw [eq_comm, decide_eq_false_iff_not]; omega
structure ShortEn (x : S29) : Prop where
 s1 : x.f1.size ≤ 9223372036854775807
 s5 : x.f5.size ≤ 9223372036854775807
 s6 : x.f6.size ≤ 9223372036854775807
 ln : ∀ y ∈ x.f8, ShortLn y
theorem rhead_j3 (b : Bool) (x : S29) (hx : ShortEn x) : Ev (fun k => accountingref12_head.j3 k b x.f0 x.f1 x.f2 x.f3 x.f4 x.f5 x.f6 x.f7 x.f8) (headJ3 b x) := by
 refine Ev.step (fun k => accountingref12_head.j3.eq_2 _ _ _ _ _ _ _ _ _ _ k) ?_
 unfold headJ3
 cases b
 ·simp only [Bool.false_eq_true, if_false]
  refine Ev.bind (plain_ev x.f5 hx.s5) ?_
  simp only [head_tail]
  exact Ev.now _
 ·exact Ev.now _
theorem rhead_j2 (b : Bool) (x : S29) (hx : ShortEn x) : Ev (fun k => accountingref12_head.j2 k b x.f0 x.f1 x.f2 x.f3 x.f4 x.f5 x.f6 x.f7 x.f8) (headJ2 b x) := by
 refine Ev.step (fun k => accountingref12_head.j2.eq_2 _ _ _ _ _ _ _ _ _ _ k) ?_
 unfold headJ2
 cases b
 ·simp only [Bool.false_eq_true, if_false]
  by_cases h : x.f4 < 1
  ·simp only [if_pos h]
   rw [decide_eq_true (Or.inl h : x.f4 < 1 ∨ x.f4 > 7)]
   exact rhead_j3 true x hx
  ·simp only [if_neg h]
   rw [show decide (x.f4 < 1 ∨ x.f4 > 7) = decide (x.f4 > 7) from by rw [decide_eq_decide]; omega]
   exact rhead_j3 _ x hx
 ·exact Ev.now _
theorem rhead_j1 (b : Bool) (x : S29) (hx : ShortEn x) : Ev (fun k => accountingref12_head.j1 k b x.f0 x.f1 x.f2 x.f3 x.f4 x.f5 x.f6 x.f7 x.f8) (headJ1 b x) := by
 refine Ev.step (fun k => accountingref12_head.j1.eq_2 _ _ _ _ _ _ _ _ _ _ k) ?_
 unfold headJ1
 cases b
 ·simp only [Bool.false_eq_true, if_false, rday_f, Option.bind_some]
  cases dayB x.f2
  ·exact rhead_j2 true x hx
  ·simp only [if_true, Bool.not_true, Bool.false_or]
   exact rhead_j2 _ x hx
 ·exact Ev.now _
theorem rhead_j0 (b : Bool) (x : S29) (hx : ShortEn x) : Ev (fun k => accountingref12_head.j0 k b x.f0 x.f1 x.f2 x.f3 x.f4 x.f5 x.f6 x.f7 x.f8) (headJ0 b x) := by
 refine Ev.step (fun k => accountingref12_head.j0.eq_2 _ _ _ _ _ _ _ _ _ _ k) ?_
 unfold headJ0
 cases b
 ·simp only [Bool.false_eq_true, if_false]
  refine Ev.bind (refCode_ev _ hx.s1) ?_
  cases codeB x.f1
  ·exact rhead_j1 true x hx
  ·simp only [if_true, Bool.not_true, Bool.false_or]
   refine Ev.bind (refCode_ev _ hx.s6) ?_
   exact rhead_j1 _ x hx
 ·exact Ev.now _
theorem rhead_ev (x : S29) (hx : ShortEn x) : Ev (fun k => accountingref12_head.f k x.f0 x.f1 x.f2 x.f3 x.f4 x.f5 x.f6 x.f7 x.f8) (headE x) := by
 unfold accountingref12_head.f headE
 by_cases h1 : x.f0 < 0
 ·simp only [if_pos h1]; rw [decide_eq_true (by omega)]; exact rhead_j0 true x hx
 simp only [if_neg h1]
 by_cases h2 : x.f0 > 4000
 ·simp only [if_pos h2]; rw [decide_eq_true (by omega)]; exact rhead_j0 true x hx
 simp only [if_neg h2]
 by_cases h3 : x.f7 < 0
 ·simp only [if_pos h3]; rw [decide_eq_true (by omega)]; exact rhead_j0 true x hx
 simp only [if_neg h3]
 rw [show decide (x.f0 < 0 ∨ x.f0 > 4000 ∨ x.f7 < 0 ∨ x.f7 > 4000) = decide (x.f7 > 4000) from by rw [decide_eq_decide]; omega]
 exact rhead_j0 _ x hx
def linesE : Nat → List S109 → Option (Int × Int)
 | _, [] => none
 | i, y :: r => if lineE y = 0 then linesE (i + 1) r else some ((i : Int), lineE y)
def chkE (x : S29) : Int × Int := if headE x = 0 then (match linesE 0 x.f8 with | some e => e | none => if balB x.f8 = true then (-1, 0) else (-1, 15)) else (-1, headE x)
theorem head_len {x : S29} (h : headE x = 0) : 2 ≤ x.f8.length ∧ x.f8.length ≤ 100 ∧ codeB x.f1 = true ∧ codeB x.f6 = true ∧ dayB x.f2 = true ∧ dayB x.f3 = true := by
 unfold headE headJ0 at h
 split at h
 ·omega
 unfold headJ1 at h
 split at h
 ·omega
 rename_i h1
 unfold headJ2 at h
 split at h
 ·omega
 rename_i h2
 unfold headJ3 at h
 split at h
 ·omega
 split at h
 ·omega
 split at h
 ·omega
 split at h
 ·omega
 simp only [Bool.or_eq_true, Bool.not_eq_true', not_or, Bool.not_eq_false] at h1 h2
 exact ⟨by omega, by omega, h1.1, h1.2, h2.1, h2.2⟩
theorem line_ok {y : S109} (h : lineE y = 0) : codeB y.f0 = true ∧ optB y.f4 = true ∧ monB y.f1 = true ∧ ws y.f2 1000000000000 = true ∧ ws y.f3 1000000000000 = true ∧ rightT y.f6 = true := by
 unfold lineE at h
 split at h
 ·omega
 rename_i h1
 split at h
 ·omega
 rename_i h2
 split at h
 ·omega
 rename_i h3
 split at h
 ·omega
 split at h
 ·omega
 rename_i h5
 simp only [Bool.or_eq_true, Bool.not_eq_true', not_or, Bool.not_eq_false] at h1 h2 h3 h5
 exact ⟨h1.1, h1.2.1, h2, h3.1, h3.2, h5⟩
theorem linesE_none : ∀ {l : List S109} {i : Nat}, linesE i l = none → ∀ y ∈ l, lineE y = 0
 | [], _, _, y, hy => by cases hy
 | z :: r, i, h, y, hy => by
  unfold linesE at h
  split at h
  ·rename_i h0
   rcases List.mem_cons.1 hy with rfl | hy
   ·exact h0
   ·exact linesE_none h y hy
  ·cases h
theorem mon_size {s : ByteArray} (h : monB s = true) : s.size = 3 := by
 unfold monB at h
 simp only [Bool.and_eq_true, decide_eq_true_eq] at h
 exact h.1
theorem bal_f {l : List S109} (hl : l.length ≤ 100) (h : ∀ y ∈ l, lineE y = 0) : entry_Balanced.f l = some (balB l) := by
 unfold entry_Balanced.f
 rw [if_pos]
 refine ⟨by omega, fun x hx => ?_⟩
 obtain ⟨_, _, h1, h2, h3, _⟩ := line_ok (h x hx)
 unfold ws at h2 h3
 rw [decide_eq_true_eq] at h2 h3
 refine ⟨by rw [mon_size h1]; decide, ?_, ?_⟩ <;> unfold i64ok <;> omega
theorem rd109 {l : List S109} {i : Nat} (h : i < l.length) : rd_T109 l (i : Int) = l[i] := by
 simp [rd_T109, h]
def FitE (x : S29) : Prop := ∀ y ∈ x.f8, y.f1.size ≤ maxLen
theorem chk_l0 (x : S29) (hf : FitE x) (hl : x.f8.length ≤ 100) : ∀ (n i : Nat), x.f8.length - i = n → i ≤ x.f8.length → (∀ y ∈ x.f8.take i, lineE y = 0) → Ev (fun k => entry_Check.l0 k x.f8 (x.f8.length : Int) (i : Int) x.f0 x.f1 x.f2 x.f3 x.f4 x.f5 x.f6 x.f7 x.f8) (match linesE i (x.f8.drop i) with | some e => e | none => if balB x.f8 = true then (-1, 0) else (-1, 15)) := by
 intro n
 induction n with
 | zero =>
  intro i hn hi hz
  obtain rfl : i = x.f8.length := by omega
  refine Ev.step (fun k => entry_Check.l0.eq_2 _ _ _ _ _ _ _ _ _ _ _ _ k) ?_
  rw [List.take_length] at hz
  simp only [if_neg (show ¬ ((x.f8.length : Int) < (x.f8.length : Int)) by omega), List.drop_length, linesE, bal_f hl hz, Option.bind_some]
  cases balB x.f8 <;> exact Ev.now _
 | succ n ih =>
  intro i hn hi hz
  have hil : i < x.f8.length := by omega
  refine Ev.step (fun k => entry_Check.l0.eq_2 _ _ _ _ _ _ _ _ _ _ _ _ k) ?_
  have hw : wrap64 ((i : Int) + 1) = ((i + 1 : Nat) : Int) := by rw [w64t (by omega) (by omega)]; omega
  simp only [if_pos (show ((i : Int) < (x.f8.length : Int)) by omega), if_pos (show (0 : Int) ≤ (i : Int) by omega), hw, rd109 hil]
  refine Ev.bind (line_ev x.f8[i] (hf _ (List.getElem_mem _))) ?_
  rw [List.drop_eq_getElem_cons hil]
  unfold linesE
  by_cases h0 : lineE x.f8[i] = 0
  ·simp only [if_pos h0]
   refine ih (i + 1) (by omega) (by omega) (fun y hy => ?_)
   rw [List.take_add_one, List.getElem?_eq_getElem hil] at hy
   rcases List.mem_append.1 hy with hy | hy
   ·exact hz y hy
   ·simp at hy
    subst hy
    exact h0
  ·simp only [if_neg h0]
   exact Ev.now _
theorem chk_ev (x : S29) (hf : FitE x) : Ev (fun k => entry_Check.f k x.f0 x.f1 x.f2 x.f3 x.f4 x.f5 x.f6 x.f7 x.f8) (chkE x) := by
 unfold entry_Check.f chkE
 refine Ev.bind (head_ev x) ?_
 by_cases h : headE x = 0
 ·simp only [if_pos h]
  exact chk_l0 x hf (head_len h).2.1 _ 0 rfl (Nat.zero_le _) (fun y hy => by simp at hy)
 ·simp only [if_neg h]
  exact Ev.now _
end Go.Proofs.YtppcjoaghlecmaaDoor.P
namespace Go.Proofs.YtppcjoaghlecmaaDoor.P
open Go.RowKit Go.Proofs.YtppcjoaghlecmaaDoorW.PrintWords Go.Proofs.YtppcjoaghlecmaaDoorW.PrintLast Go.Proofs.YtppcjoaghlecmaaDoorW.PrintMore
attribute [local go_sem] max2_int min2_int max_two min_two max_three min_three max_four min_four
set_option linter.unusedVariables false
set_option linter.unusedSimpArgs false
theorem eqA40 (d : Nat) (w : World) (x0 y0 : ByteArray) (x1 y1 : ByteArray) (x2 y2 : ByteArray) (x3 y3 : ByteArray) (x4 y4 : ByteArray) :
  (Op.equalIn (d + 2) 40 (.agg #[.string x0, .string x1, .string x2, .string x3, .string x4]) (.agg #[.string y0, .string y1, .string y2, .string y3, .string y4])).run Tryd.prog w = .ok (x0.toList == y0.toList && (x1.toList == y1.toList && (x2.toList == y2.toList && (x3.toList == y3.toList && (x4.toList == y4.toList))))) w := by
 refine eqA_of Tryd.underlying40 (by kernel_rfl) ?_
 refine eqf_cons (by rfl) (by go_simp; rfl) (by go_simp; rfl) (by go_simp) ?_
 refine eqf_cons (by rfl) (by go_simp; rfl) (by go_simp; rfl) (by go_simp) ?_
 refine eqf_cons (by rfl) (by go_simp; rfl) (by go_simp; rfl) (by go_simp) ?_
 refine eqf_cons (by rfl) (by go_simp; rfl) (by go_simp; rfl) (by go_simp) ?_
 exact eqf_last (by rfl) (by go_simp; rfl) (by go_simp; rfl) (by go_simp)
end Go.Proofs.YtppcjoaghlecmaaDoor.P
namespace Go.Proofs.YtppcjoaghlecmaaDoor.Op
open Go.RowKit Go.Proofs.YtppcjoaghlecmaaDoorW.PrintWords Go.ChangeShapes Go.WideShapes Go.Deep
def FitL {α : Type} (f : α → Prop) (xs : List α) : Prop := xs.length ≤ reachBytes ∧ ∀ x ∈ xs, f x
def Opn (P : Program) (t : TypeId) {α : Type} (k : Kd α) (fit : α → Prop) : Prop :=
 ∀ {H : Type} {enc : TypeId × Value → H} {w : World} {fuel : Nat} {cs : List Value} {x : DataW H × List MemPlace}, DataW.trod enc P w 0 (fun _ => true) true fuel t cs = some x → (∀ n ∈ x.1.weights P t, n ≤ reachBytes) → ∃ y, k.K w y cs ∧ fit y
section
variable {P : Program}
theorem all_w {H : Type} {e : TypeId} {n : Nat} {d : DataW H} : ∀ {l : List (DataW H)}, d ∈ l → n ∈ d.weights P e → n ∈ DataW.weightsAll P e l
 | [], h, _ => by cases h
 | c :: r, h, hn => by
  simp only [DataW.weightsAll, List.mem_append]
  rcases List.mem_cons.1 h with rfl | h
  ·exact .inl hn
  ·exact .inr (all_w h hn)
theorem each_w {H : Type} {n : Nat} {d : DataW H} {t : TypeId} : ∀ {ts : List TypeId} {ds : List (DataW H)} {i : Nat}, ts[i]? = some t → ds[i]? = some d → n ∈ d.weights P t → n ∈ DataW.weightsEach P ts ds
 | [], _, i, h, _, _ => by simp at h
 | _ :: _, [], i, _, h, _ => by simp at h
 | t' :: ts, d' :: ds, 0, h1, h2, hn => by
  obtain rfl : t' = t := by simpa using h1
  obtain rfl : d' = d := by simpa using h2
  simp only [DataW.weightsEach, List.mem_append]
  exact .inl hn
 | t' :: ts, d' :: ds, i + 1, h1, h2, hn => by
  simp only [DataW.weightsEach, List.mem_append]
  exact .inr (each_w (i := i) (by simpa using h1) (by simpa using h2) hn)
theorem part_w {H : Type} {t : TypeId} {fs : Array Field} {xs : List (DataW H × List MemPlace)} (ht : P.underlying t = some (.struct fs)) (hw : ∀ n ∈ (DataW.agg (xs.map (·.1))).weights P t, n ≤ reachBytes) {i : Nat} {f : Field} {y : DataW H × List MemPlace} (hf : fs[i]? = some f) (hy : xs[i]? = some y) : ∀ n ∈ y.1.weights P f.type, n ≤ reachBytes := by
 intro n hn
 refine hw n ?_
 simp only [DataW.weights, ht]
 refine each_w (i := i) (t := f.type) (d := y.1) ?_ ?_ hn
 ·rw [List.getElem?_map, Array.getElem?_toList, hf]; rfl
 ·rw [List.getElem?_map, hy]; rfl
theorem arg_w {H : Type} {ts : List TypeId} {ds : List (DataW H)} (h : (DataW.weightsEach P ts ds).all (· ≤ reachBytes) = true) (i : Nat) {t : TypeId} {d : DataW H} (h1 : ts[i]? = some t) (h2 : ds[i]? = some d) : ∀ n ∈ d.weights P t, n ≤ reachBytes := fun n hn => by
 exact of_decide_eq_true (List.all_eq_true.1 h n (each_w h1 h2 hn))
theorem opn_int {t : TypeId} {k : IntKind} (ht : P.underlying t = some (.int k)) : Opn P t (Kd.int k) (fun n => (Lit.int k n).wf = true) := by
 intro H enc w fuel cs x h hw
 obtain ⟨n, rfl, _, hn⟩ := DataW.trod_int ht h
 exact ⟨n, rfl, hn⟩
theorem opn_string {t : TypeId} (ht : P.underlying t = some .string) : Opn P t Kd.string (fun s => s.size ≤ reachBytes) := by
 intro H enc w fuel cs x h hw
 obtain ⟨s, rfl, hx, hs⟩ := DataW.trod_string ht h
 subst hx
 refine ⟨s, rfl, ?_⟩
 have := hw s.data.toList.length (by rw [DataW.weights]; exact List.mem_singleton_self _)
 rw [Array.length_toList] at this
 exact this
theorem opn_slice {t e : TypeId} {α : Type} {d : Kd α} {f : α → Prop} (ht : P.underlying t = some (.slice e)) (hC : P.cellsOf e = d.sz) (hbo : Nat.blt 0 (P.bytesOf e) = true) (he : Opn P e d f) : Opn P t (Kd.slice e d) (FitL f) := by
 intro H enc w fuel cs x h hw
 rcases open_slice ht h with ⟨rfl, _⟩ | ⟨a, len, cap, m, n, D, Pl, rfl, hb, hl, hm, hmm, hx, hi⟩
 ·exact ⟨[], ⟨none, 0, rfl, Nat.le_refl _, ⟨rfl, by simp, fun h => by simp at h⟩⟩, by simp, fun x hx => by simp at hx⟩
 ·have hmc : m = cap := by rw [hmm]; simp
  subst hx
  have hmem : ∀ k, k < len → ∀ n ∈ (D k).weights P e, n ≤ reachBytes := fun k hk n hn => by
   refine hw n ?_
   simp only [DataW.weights, ht]
   refine List.mem_cons_of_mem _ (List.mem_append_left _ (all_w (d := D k) (List.mem_map.2 ⟨k, List.mem_range.2 hk, rfl⟩) hn))
  have hlr : len ≤ reachBytes := by
   have h1 := hw _ (by simp only [DataW.weights, ht]; exact List.mem_cons_self ..)
   simp only [List.length_map, List.length_range] at h1
   have h2 : 0 < P.bytesOf e := by simpa using hbo
   have h3 : (len + (m - len)) * 1 ≤ (len + (m - len)) * P.bytesOf e := Nat.mul_le_mul_left _ h2
   omega
  have build : ∀ k, k ≤ len → ∃ ys : List α, ys.length = k ∧ (∀ y ∈ ys, f y) ∧ ∀ i y, ys[i]? = some y → ∃ c, c.length = d.sz ∧ d.K w y c ∧ ∀ j u, c[j]? = some u → w.cell? (a.add (i * d.sz + j)) = some u := by
   intro k
   induction k with
   | zero => exact fun _ => ⟨[], rfl, fun y hy => by simp at hy, fun i y hy => by simp at hy⟩
   | succ k ih =>
    intro hk
    obtain ⟨ys, hyl, hyf, hyc⟩ := ih (by omega)
    obtain ⟨cs', hc, ht'⟩ := hi k (by omega)
    obtain ⟨y, K, fy⟩ := he ht' (hmem k (by omega))
    rw [hC] at hc
    obtain ⟨_, hcl, hat⟩ := World.cells?_some hc
    refine ⟨ys ++ [y], by simp [hyl], fun z hz => ?_, fun i z hz => ?_⟩
    ·rcases List.mem_append.1 hz with hz | hz
     ·exact hyf z hz
     ·rw [List.mem_singleton.1 hz]; exact fy
    ·rcases Nat.lt_or_ge i ys.length with hlt | hge
     ·rw [List.getElem?_append_left hlt] at hz
      exact hyc i z hz
     ·have hil : i = ys.length := by
       have := (List.getElem?_eq_some_iff.1 hz).1
       simp at this; omega
      subst hil
      obtain rfl : y = z := by simpa using hz
      refine ⟨cs', hcl, K, fun j u hu => ?_⟩
      have hj : j < d.sz := by have := (List.getElem?_eq_some_iff.1 hu).1; omega
      rw [← Go.Deep.add_add, hyl, hat j hj, hu]
  obtain ⟨ys, hyl, hyf, hyc⟩ := build len (Nat.le_refl _)
  have hml : maxLen ≤ 9223372036854775807 := by unfold maxLen; omega
  exact ⟨ys, ⟨some a, cap, by rw [hyl], by omega, by rw [hyl]; exact ⟨hyl, by omega, fun _ => ⟨a, rfl, hyc⟩⟩⟩, by omega, hyf⟩
theorem Opn.last {α : Type} {k : Kd α} {w : World} {y : α} {cs : List Value} {o s : Nat} (h : k.K w y ((cs.drop o).take s)) (hl : cs.length ≤ o + s) : k.K w y (cs.drop o) := by
 rwa [List.take_of_length_le (by simp; omega)] at h
theorem Opn.cons {α β : Type} {a : Kd α} {b : Kd β} {w : World} {x : α} {y : β} {cs : List Value} {o s : Nat} (h : a.K w x ((cs.drop o).take s)) (k : b.K w y (cs.drop (o + s))) : (Kd.pair a b).K w (x, y) (cs.drop o) :=
 ⟨_, _, (by rw [← List.drop_drop]; exact (List.take_append_drop s (cs.drop o)).symm), h, k⟩
theorem Opn.zero {α : Type} {k : Kd α} {w : World} {y : α} {cs : List Value} (h : k.K w y (cs.drop 0)) : k.K w y cs := h
theorem opened_slice {H : Type} {enc : TypeId × Value → H} {w : World} {t e : TypeId} {α : Type} {d : Kd α} {f : α → Prop} {A : Option Addr} {len cap : Nat} {dd : DataW H} {ps : List MemPlace} (ho : Opn P t (Kd.slice e d) (FitL f))
  (h : DataW.Trod enc P w 0 (fun _ => true) true t (.slice A len cap) dd ps) (hw : ∀ n ∈ dd.weights P t, n ≤ reachBytes) : ∃ l : List α, l.length = len ∧ l.length ≤ cap ∧ d.C w A l.length l ∧ FitL f l := by
 obtain ⟨fuel, hf⟩ := h
 obtain ⟨y, ⟨A', c, e1, hl, hC⟩, fy⟩ := ho hf hw
 have e2 : Value.slice A len cap = Value.slice A' y.length c := by simpa [Value.cells] using e1
 injection e2 with e3 e4 e5
 subst e3 e4 e5
 exact ⟨y, rfl, hl, hC, fy⟩
theorem opened_struct {H : Type} {enc : TypeId × Value → H} {w : World} {t : TypeId} {α : Type} {d : Kd α} {f : α → Prop} {cs : Array Value} {dd : DataW H} {ps : List MemPlace} (ho : Opn P t d f)
  (h : DataW.Trod enc P w 0 (fun _ => true) true t (.agg cs) dd ps) (hw : ∀ n ∈ dd.weights P t, n ≤ reachBytes) : ∃ y : α, d.K w y cs.toList ∧ f y := by
 obtain ⟨fuel, hf⟩ := h
 exact ho hf hw
end
end Go.Proofs.YtppcjoaghlecmaaDoor.Op
namespace Go.Proofs.YtppcjoaghlecmaaDoor.P
open Go.RowKit Go.Proofs.YtppcjoaghlecmaaDoorW.PrintWords Go.Proofs.YtppcjoaghlecmaaDoorW.PrintLast
open Go.Proofs.YtppcjoaghlecmaaDoor.Op
set_option linter.unusedVariables false
def fit213 (x : S213) : Prop := (fun s => s.size ≤ reachBytes) x.f0 ∧ (fun s => s.size ≤ reachBytes) x.f1
theorem opn213 : Opn Tryd.prog 213 k213 fit213 := by
 intro H enc w fuel cs x h hw
 obtain ⟨xs, n, _, hxe, hlen, hxl, hg⟩ := DataW.trod_struct Tryd.underlying213 h
 subst hxe
 have hlen : cs.length = 2 := hlen.trans (by kernel_rfl)
 have g0 := (hg 0 _ rfl).trans (List.getElem?_eq_getElem (show 0 < xs.length by rw [hxl]; decide))
 change DataW.trod _ _ _ _ _ _ _ 9 (List.take (Tryd.prog.cellsOf 9) (List.drop 0 cs)) = _ at g0
 rw [show Tryd.prog.cellsOf 9 = 1 by kernel_rfl] at g0
 obtain ⟨y0, K0, f0⟩ := (opn_string Tryd.underlying9) g0 (part_w Tryd.underlying213 hw (i := 0) rfl (List.getElem?_eq_getElem (show 0 < xs.length by rw [hxl]; decide)))
 have g1 := (hg 1 _ rfl).trans (List.getElem?_eq_getElem (show 1 < xs.length by rw [hxl]; decide))
 change DataW.trod _ _ _ _ _ _ _ 9 (List.take (Tryd.prog.cellsOf 9) (List.drop 1 cs)) = _ at g1
 rw [show Tryd.prog.cellsOf 9 = 1 by kernel_rfl] at g1
 obtain ⟨y1, K1, f1⟩ := (opn_string Tryd.underlying9) g1 (part_w Tryd.underlying213 hw (i := 1) rfl (List.getElem?_eq_getElem (show 1 < xs.length by rw [hxl]; decide)))
 exact ⟨⟨y0, y1⟩, (show (Kd.pair Kd.string Kd.string).K w (y0, y1) cs from Opn.zero (Opn.cons K0 (Opn.last K1 (by omega)))), ⟨f0, f1⟩⟩
def fit109 (x : S109) : Prop := (fun s => s.size ≤ reachBytes) x.f0 ∧ (fun s => s.size ≤ reachBytes) x.f1 ∧ (fun n => (Lit.int .i64 n).wf = true) x.f2 ∧ (fun n => (Lit.int .i64 n).wf = true) x.f3 ∧ (fun s => s.size ≤ reachBytes) x.f4 ∧ (fun s => s.size ≤ reachBytes) x.f5 ∧ (FitL fit213) x.f6
theorem opn109 : Opn Tryd.prog 109 k109 fit109 := by
 intro H enc w fuel cs x h hw
 obtain ⟨xs, n, _, hxe, hlen, hxl, hg⟩ := DataW.trod_struct Tryd.underlying109 h
 subst hxe
 have hlen : cs.length = 7 := hlen.trans (by kernel_rfl)
 have g0 := (hg 0 _ rfl).trans (List.getElem?_eq_getElem (show 0 < xs.length by rw [hxl]; decide))
 change DataW.trod _ _ _ _ _ _ _ 9 (List.take (Tryd.prog.cellsOf 9) (List.drop 0 cs)) = _ at g0
 rw [show Tryd.prog.cellsOf 9 = 1 by kernel_rfl] at g0
 obtain ⟨y0, K0, f0⟩ := (opn_string Tryd.underlying9) g0 (part_w Tryd.underlying109 hw (i := 0) rfl (List.getElem?_eq_getElem (show 0 < xs.length by rw [hxl]; decide)))
 have g1 := (hg 1 _ rfl).trans (List.getElem?_eq_getElem (show 1 < xs.length by rw [hxl]; decide))
 change DataW.trod _ _ _ _ _ _ _ 9 (List.take (Tryd.prog.cellsOf 9) (List.drop 1 cs)) = _ at g1
 rw [show Tryd.prog.cellsOf 9 = 1 by kernel_rfl] at g1
 obtain ⟨y1, K1, f1⟩ := (opn_string Tryd.underlying9) g1 (part_w Tryd.underlying109 hw (i := 1) rfl (List.getElem?_eq_getElem (show 1 < xs.length by rw [hxl]; decide)))
 have g2 := (hg 2 _ rfl).trans (List.getElem?_eq_getElem (show 2 < xs.length by rw [hxl]; decide))
 change DataW.trod _ _ _ _ _ _ _ 3 (List.take (Tryd.prog.cellsOf 3) (List.drop 2 cs)) = _ at g2
 rw [show Tryd.prog.cellsOf 3 = 1 by kernel_rfl] at g2
 obtain ⟨y2, K2, f2⟩ := (opn_int Tryd.underlying3) g2 (part_w Tryd.underlying109 hw (i := 2) rfl (List.getElem?_eq_getElem (show 2 < xs.length by rw [hxl]; decide)))
 have g3 := (hg 3 _ rfl).trans (List.getElem?_eq_getElem (show 3 < xs.length by rw [hxl]; decide))
 change DataW.trod _ _ _ _ _ _ _ 3 (List.take (Tryd.prog.cellsOf 3) (List.drop 3 cs)) = _ at g3
 rw [show Tryd.prog.cellsOf 3 = 1 by kernel_rfl] at g3
 obtain ⟨y3, K3, f3⟩ := (opn_int Tryd.underlying3) g3 (part_w Tryd.underlying109 hw (i := 3) rfl (List.getElem?_eq_getElem (show 3 < xs.length by rw [hxl]; decide)))
 have g4 := (hg 4 _ rfl).trans (List.getElem?_eq_getElem (show 4 < xs.length by rw [hxl]; decide))
 change DataW.trod _ _ _ _ _ _ _ 9 (List.take (Tryd.prog.cellsOf 9) (List.drop 4 cs)) = _ at g4
 rw [show Tryd.prog.cellsOf 9 = 1 by kernel_rfl] at g4
 obtain ⟨y4, K4, f4⟩ := (opn_string Tryd.underlying9) g4 (part_w Tryd.underlying109 hw (i := 4) rfl (List.getElem?_eq_getElem (show 4 < xs.length by rw [hxl]; decide)))
 have g5 := (hg 5 _ rfl).trans (List.getElem?_eq_getElem (show 5 < xs.length by rw [hxl]; decide))
 change DataW.trod _ _ _ _ _ _ _ 9 (List.take (Tryd.prog.cellsOf 9) (List.drop 5 cs)) = _ at g5
 rw [show Tryd.prog.cellsOf 9 = 1 by kernel_rfl] at g5
 obtain ⟨y5, K5, f5⟩ := (opn_string Tryd.underlying9) g5 (part_w Tryd.underlying109 hw (i := 5) rfl (List.getElem?_eq_getElem (show 5 < xs.length by rw [hxl]; decide)))
 have g6 := (hg 6 _ rfl).trans (List.getElem?_eq_getElem (show 6 < xs.length by rw [hxl]; decide))
 change DataW.trod _ _ _ _ _ _ _ 97 (List.take (Tryd.prog.cellsOf 97) (List.drop 6 cs)) = _ at g6
 rw [show Tryd.prog.cellsOf 97 = 1 by kernel_rfl] at g6
 obtain ⟨y6, K6, f6⟩ := (opn_slice Tryd.underlying97 (by kernel_rfl) (by kernel_rfl) opn213) g6 (part_w Tryd.underlying109 hw (i := 6) rfl (List.getElem?_eq_getElem (show 6 < xs.length by rw [hxl]; decide)))
 exact ⟨⟨y0, y1, y2, y3, y4, y5, y6⟩, (show (Kd.pair Kd.string (Kd.pair Kd.string (Kd.pair (Kd.int .i64) (Kd.pair (Kd.int .i64) (Kd.pair Kd.string (Kd.pair Kd.string (Kd.slice 213 k213))))))).K w (y0, y1, y2, y3, y4, y5, y6) cs from Opn.zero (Opn.cons K0 (Opn.cons K1 (Opn.cons K2 (Opn.cons K3 (Opn.cons K4 (Opn.cons K5 (Opn.last K6 (by omega))))))))), ⟨f0, f1, f2, f3, f4, f5, f6⟩⟩
def fit29 (x : S29) : Prop := (fun n => (Lit.int .i64 n).wf = true) x.f0 ∧ (fun s => s.size ≤ reachBytes) x.f1 ∧ (fun n => (Lit.int .i64 n).wf = true) x.f2 ∧ (fun n => (Lit.int .i64 n).wf = true) x.f3 ∧ (fun n => (Lit.int .i64 n).wf = true) x.f4 ∧ (fun s => s.size ≤ reachBytes) x.f5 ∧ (fun s => s.size ≤ reachBytes) x.f6 ∧ (fun n => (Lit.int .i64 n).wf = true) x.f7 ∧ (FitL fit109) x.f8
theorem opn29 : Opn Tryd.prog 29 k29 fit29 := by
 intro H enc w fuel cs x h hw
 obtain ⟨xs, n, _, hxe, hlen, hxl, hg⟩ := DataW.trod_struct Tryd.underlying29 h
 subst hxe
 have hlen : cs.length = 9 := hlen.trans (by kernel_rfl)
 have g0 := (hg 0 _ rfl).trans (List.getElem?_eq_getElem (show 0 < xs.length by rw [hxl]; decide))
 change DataW.trod _ _ _ _ _ _ _ 3 (List.take (Tryd.prog.cellsOf 3) (List.drop 0 cs)) = _ at g0
 rw [show Tryd.prog.cellsOf 3 = 1 by kernel_rfl] at g0
 obtain ⟨y0, K0, f0⟩ := (opn_int Tryd.underlying3) g0 (part_w Tryd.underlying29 hw (i := 0) rfl (List.getElem?_eq_getElem (show 0 < xs.length by rw [hxl]; decide)))
 have g1 := (hg 1 _ rfl).trans (List.getElem?_eq_getElem (show 1 < xs.length by rw [hxl]; decide))
 change DataW.trod _ _ _ _ _ _ _ 9 (List.take (Tryd.prog.cellsOf 9) (List.drop 1 cs)) = _ at g1
 rw [show Tryd.prog.cellsOf 9 = 1 by kernel_rfl] at g1
 obtain ⟨y1, K1, f1⟩ := (opn_string Tryd.underlying9) g1 (part_w Tryd.underlying29 hw (i := 1) rfl (List.getElem?_eq_getElem (show 1 < xs.length by rw [hxl]; decide)))
 have g2 := (hg 2 _ rfl).trans (List.getElem?_eq_getElem (show 2 < xs.length by rw [hxl]; decide))
 change DataW.trod _ _ _ _ _ _ _ 3 (List.take (Tryd.prog.cellsOf 3) (List.drop 2 cs)) = _ at g2
 rw [show Tryd.prog.cellsOf 3 = 1 by kernel_rfl] at g2
 obtain ⟨y2, K2, f2⟩ := (opn_int Tryd.underlying3) g2 (part_w Tryd.underlying29 hw (i := 2) rfl (List.getElem?_eq_getElem (show 2 < xs.length by rw [hxl]; decide)))
 have g3 := (hg 3 _ rfl).trans (List.getElem?_eq_getElem (show 3 < xs.length by rw [hxl]; decide))
 change DataW.trod _ _ _ _ _ _ _ 3 (List.take (Tryd.prog.cellsOf 3) (List.drop 3 cs)) = _ at g3
 rw [show Tryd.prog.cellsOf 3 = 1 by kernel_rfl] at g3
 obtain ⟨y3, K3, f3⟩ := (opn_int Tryd.underlying3) g3 (part_w Tryd.underlying29 hw (i := 3) rfl (List.getElem?_eq_getElem (show 3 < xs.length by rw [hxl]; decide)))
 have g4 := (hg 4 _ rfl).trans (List.getElem?_eq_getElem (show 4 < xs.length by rw [hxl]; decide))
 change DataW.trod _ _ _ _ _ _ _ 3 (List.take (Tryd.prog.cellsOf 3) (List.drop 4 cs)) = _ at g4
 rw [show Tryd.prog.cellsOf 3 = 1 by kernel_rfl] at g4
 obtain ⟨y4, K4, f4⟩ := (opn_int Tryd.underlying3) g4 (part_w Tryd.underlying29 hw (i := 4) rfl (List.getElem?_eq_getElem (show 4 < xs.length by rw [hxl]; decide)))
 have g5 := (hg 5 _ rfl).trans (List.getElem?_eq_getElem (show 5 < xs.length by rw [hxl]; decide))
 change DataW.trod _ _ _ _ _ _ _ 9 (List.take (Tryd.prog.cellsOf 9) (List.drop 5 cs)) = _ at g5
 rw [show Tryd.prog.cellsOf 9 = 1 by kernel_rfl] at g5
 obtain ⟨y5, K5, f5⟩ := (opn_string Tryd.underlying9) g5 (part_w Tryd.underlying29 hw (i := 5) rfl (List.getElem?_eq_getElem (show 5 < xs.length by rw [hxl]; decide)))
 have g6 := (hg 6 _ rfl).trans (List.getElem?_eq_getElem (show 6 < xs.length by rw [hxl]; decide))
 change DataW.trod _ _ _ _ _ _ _ 9 (List.take (Tryd.prog.cellsOf 9) (List.drop 6 cs)) = _ at g6
 rw [show Tryd.prog.cellsOf 9 = 1 by kernel_rfl] at g6
 obtain ⟨y6, K6, f6⟩ := (opn_string Tryd.underlying9) g6 (part_w Tryd.underlying29 hw (i := 6) rfl (List.getElem?_eq_getElem (show 6 < xs.length by rw [hxl]; decide)))
 have g7 := (hg 7 _ rfl).trans (List.getElem?_eq_getElem (show 7 < xs.length by rw [hxl]; decide))
 change DataW.trod _ _ _ _ _ _ _ 3 (List.take (Tryd.prog.cellsOf 3) (List.drop 7 cs)) = _ at g7
 rw [show Tryd.prog.cellsOf 3 = 1 by kernel_rfl] at g7
 obtain ⟨y7, K7, f7⟩ := (opn_int Tryd.underlying3) g7 (part_w Tryd.underlying29 hw (i := 7) rfl (List.getElem?_eq_getElem (show 7 < xs.length by rw [hxl]; decide)))
 have g8 := (hg 8 _ rfl).trans (List.getElem?_eq_getElem (show 8 < xs.length by rw [hxl]; decide))
 change DataW.trod _ _ _ _ _ _ _ 27 (List.take (Tryd.prog.cellsOf 27) (List.drop 8 cs)) = _ at g8
 rw [show Tryd.prog.cellsOf 27 = 1 by kernel_rfl] at g8
 obtain ⟨y8, K8, f8⟩ := (opn_slice Tryd.underlying27 (by kernel_rfl) (by kernel_rfl) opn109) g8 (part_w Tryd.underlying29 hw (i := 8) rfl (List.getElem?_eq_getElem (show 8 < xs.length by rw [hxl]; decide)))
 exact ⟨⟨y0, y1, y2, y3, y4, y5, y6, y7, y8⟩, (show (Kd.pair (Kd.int .i64) (Kd.pair Kd.string (Kd.pair (Kd.int .i64) (Kd.pair (Kd.int .i64) (Kd.pair (Kd.int .i64) (Kd.pair Kd.string (Kd.pair Kd.string (Kd.pair (Kd.int .i64) (Kd.slice 109 k109))))))))).K w (y0, y1, y2, y3, y4, y5, y6, y7, y8) cs from Opn.zero (Opn.cons K0 (Opn.cons K1 (Opn.cons K2 (Opn.cons K3 (Opn.cons K4 (Opn.cons K5 (Opn.cons K6 (Opn.cons K7 (Opn.last K8 (by omega))))))))))), ⟨f0, f1, f2, f3, f4, f5, f6, f7, f8⟩⟩
def fit24 (x : S24) : Prop := (fun s => s.size ≤ reachBytes) x.f0 ∧ (fun n => (Lit.int .i64 n).wf = true) x.f1 ∧ (fun n => (Lit.int .i64 n).wf = true) x.f2 ∧ (fun n => (Lit.int .i64 n).wf = true) x.f3
theorem opn24 : Opn Tryd.prog 24 k24 fit24 := by
 intro H enc w fuel cs x h hw
 obtain ⟨xs, n, _, hxe, hlen, hxl, hg⟩ := DataW.trod_struct Tryd.underlying24 h
 subst hxe
 have hlen : cs.length = 4 := hlen.trans (by kernel_rfl)
 have g0 := (hg 0 _ rfl).trans (List.getElem?_eq_getElem (show 0 < xs.length by rw [hxl]; decide))
 change DataW.trod _ _ _ _ _ _ _ 9 (List.take (Tryd.prog.cellsOf 9) (List.drop 0 cs)) = _ at g0
 rw [show Tryd.prog.cellsOf 9 = 1 by kernel_rfl] at g0
 obtain ⟨y0, K0, f0⟩ := (opn_string Tryd.underlying9) g0 (part_w Tryd.underlying24 hw (i := 0) rfl (List.getElem?_eq_getElem (show 0 < xs.length by rw [hxl]; decide)))
 have g1 := (hg 1 _ rfl).trans (List.getElem?_eq_getElem (show 1 < xs.length by rw [hxl]; decide))
 change DataW.trod _ _ _ _ _ _ _ 3 (List.take (Tryd.prog.cellsOf 3) (List.drop 1 cs)) = _ at g1
 rw [show Tryd.prog.cellsOf 3 = 1 by kernel_rfl] at g1
 obtain ⟨y1, K1, f1⟩ := (opn_int Tryd.underlying3) g1 (part_w Tryd.underlying24 hw (i := 1) rfl (List.getElem?_eq_getElem (show 1 < xs.length by rw [hxl]; decide)))
 have g2 := (hg 2 _ rfl).trans (List.getElem?_eq_getElem (show 2 < xs.length by rw [hxl]; decide))
 change DataW.trod _ _ _ _ _ _ _ 3 (List.take (Tryd.prog.cellsOf 3) (List.drop 2 cs)) = _ at g2
 rw [show Tryd.prog.cellsOf 3 = 1 by kernel_rfl] at g2
 obtain ⟨y2, K2, f2⟩ := (opn_int Tryd.underlying3) g2 (part_w Tryd.underlying24 hw (i := 2) rfl (List.getElem?_eq_getElem (show 2 < xs.length by rw [hxl]; decide)))
 have g3 := (hg 3 _ rfl).trans (List.getElem?_eq_getElem (show 3 < xs.length by rw [hxl]; decide))
 change DataW.trod _ _ _ _ _ _ _ 3 (List.take (Tryd.prog.cellsOf 3) (List.drop 3 cs)) = _ at g3
 rw [show Tryd.prog.cellsOf 3 = 1 by kernel_rfl] at g3
 obtain ⟨y3, K3, f3⟩ := (opn_int Tryd.underlying3) g3 (part_w Tryd.underlying24 hw (i := 3) rfl (List.getElem?_eq_getElem (show 3 < xs.length by rw [hxl]; decide)))
 exact ⟨⟨y0, y1, y2, y3⟩, (show (Kd.pair Kd.string (Kd.pair (Kd.int .i64) (Kd.pair (Kd.int .i64) (Kd.int .i64)))).K w (y0, y1, y2, y3) cs from Opn.zero (Opn.cons K0 (Opn.cons K1 (Opn.cons K2 (Opn.last K3 (by omega)))))), ⟨f0, f1, f2, f3⟩⟩
def fit40 (x : S40) : Prop := (fun s => s.size ≤ reachBytes) x.f0 ∧ (fun s => s.size ≤ reachBytes) x.f1 ∧ (fun s => s.size ≤ reachBytes) x.f2 ∧ (fun s => s.size ≤ reachBytes) x.f3 ∧ (fun s => s.size ≤ reachBytes) x.f4
theorem opn40 : Opn Tryd.prog 40 k40 fit40 := by
 intro H enc w fuel cs x h hw
 obtain ⟨xs, n, _, hxe, hlen, hxl, hg⟩ := DataW.trod_struct Tryd.underlying40 h
 subst hxe
 have hlen : cs.length = 5 := hlen.trans (by kernel_rfl)
 have g0 := (hg 0 _ rfl).trans (List.getElem?_eq_getElem (show 0 < xs.length by rw [hxl]; decide))
 change DataW.trod _ _ _ _ _ _ _ 9 (List.take (Tryd.prog.cellsOf 9) (List.drop 0 cs)) = _ at g0
 rw [show Tryd.prog.cellsOf 9 = 1 by kernel_rfl] at g0
 obtain ⟨y0, K0, f0⟩ := (opn_string Tryd.underlying9) g0 (part_w Tryd.underlying40 hw (i := 0) rfl (List.getElem?_eq_getElem (show 0 < xs.length by rw [hxl]; decide)))
 have g1 := (hg 1 _ rfl).trans (List.getElem?_eq_getElem (show 1 < xs.length by rw [hxl]; decide))
 change DataW.trod _ _ _ _ _ _ _ 9 (List.take (Tryd.prog.cellsOf 9) (List.drop 1 cs)) = _ at g1
 rw [show Tryd.prog.cellsOf 9 = 1 by kernel_rfl] at g1
 obtain ⟨y1, K1, f1⟩ := (opn_string Tryd.underlying9) g1 (part_w Tryd.underlying40 hw (i := 1) rfl (List.getElem?_eq_getElem (show 1 < xs.length by rw [hxl]; decide)))
 have g2 := (hg 2 _ rfl).trans (List.getElem?_eq_getElem (show 2 < xs.length by rw [hxl]; decide))
 change DataW.trod _ _ _ _ _ _ _ 9 (List.take (Tryd.prog.cellsOf 9) (List.drop 2 cs)) = _ at g2
 rw [show Tryd.prog.cellsOf 9 = 1 by kernel_rfl] at g2
 obtain ⟨y2, K2, f2⟩ := (opn_string Tryd.underlying9) g2 (part_w Tryd.underlying40 hw (i := 2) rfl (List.getElem?_eq_getElem (show 2 < xs.length by rw [hxl]; decide)))
 have g3 := (hg 3 _ rfl).trans (List.getElem?_eq_getElem (show 3 < xs.length by rw [hxl]; decide))
 change DataW.trod _ _ _ _ _ _ _ 9 (List.take (Tryd.prog.cellsOf 9) (List.drop 3 cs)) = _ at g3
 rw [show Tryd.prog.cellsOf 9 = 1 by kernel_rfl] at g3
 obtain ⟨y3, K3, f3⟩ := (opn_string Tryd.underlying9) g3 (part_w Tryd.underlying40 hw (i := 3) rfl (List.getElem?_eq_getElem (show 3 < xs.length by rw [hxl]; decide)))
 have g4 := (hg 4 _ rfl).trans (List.getElem?_eq_getElem (show 4 < xs.length by rw [hxl]; decide))
 change DataW.trod _ _ _ _ _ _ _ 9 (List.take (Tryd.prog.cellsOf 9) (List.drop 4 cs)) = _ at g4
 rw [show Tryd.prog.cellsOf 9 = 1 by kernel_rfl] at g4
 obtain ⟨y4, K4, f4⟩ := (opn_string Tryd.underlying9) g4 (part_w Tryd.underlying40 hw (i := 4) rfl (List.getElem?_eq_getElem (show 4 < xs.length by rw [hxl]; decide)))
 exact ⟨⟨y0, y1, y2, y3, y4⟩, (show (Kd.pair Kd.string (Kd.pair Kd.string (Kd.pair Kd.string (Kd.pair Kd.string Kd.string)))).K w (y0, y1, y2, y3, y4) cs from Opn.zero (Opn.cons K0 (Opn.cons K1 (Opn.cons K2 (Opn.cons K3 (Opn.last K4 (by omega))))))), ⟨f0, f1, f2, f3, f4⟩⟩
structure S69 where
 f0 : Int
 f1 : List (S94)
 f2 : List (S106)
structure S79 where
 f0 : ByteArray
 f1 : ByteArray
 f2 : ByteArray
 f3 : Int
 f4 : Int
end Go.Proofs.YtppcjoaghlecmaaDoor.P
namespace Go.Proofs.YtppcjoaghlecmaaDoor.P
open Go.RowKit Go.Sort Go.Proofs.YtppcjoaghlecmaaDoorW.PrintWords Go.Proofs.YtppcjoaghlecmaaDoorW.PrintLast Go.Proofs.YtppcjoaghlecmaaDoor.Op
set_option linter.unusedVariables false
set_option linter.unusedSimpArgs false
theorem w64 {n : Int} (h1 : -9223372036854775808 ≤ n) (h2 : n ≤ 9223372036854775807) : wrap64 n = n := by unfold wrap64; omega
theorem rd_at {l : List Int} {i : Nat} (h : i < l.length) : rd l (i : Int) = l[i] := by simp [rd, h]
theorem rd112_at {l : List S112} {i : Nat} (h : i < l.length) : rd_T112 l (i : Int) = l[i] := by simp [rd_T112, h]
theorem ba_beq (a b : ByteArray) : (a.toList == b.toList) = true ↔ a = b := by
 rw [beq_iff_eq]
 exact ⟨fun h => ByteArray.ext (Array.ext' (by rw [← ByteArray.toList_eq a, ← ByteArray.toList_eq b]; exact h)), fun h => by rw [h]⟩
theorem i64_low32 (n : Int) : bits .and .i64 n 4294967295 = n % 4294967296 := by
 have h : (BitVec.ofInt 64 4294967295).toNat = 2 ^ 32 - 1 := by decide
 have key : (BitVec.ofInt 64 n &&& BitVec.ofInt 64 4294967295).toNat = (n % ((2 ^ 64 : Nat) : Int)).toNat % 2 ^ 32 := by
  rw [BitVec.toNat_and, BitVec.toNat_ofInt, h, Nat.and_two_pow_sub_one_eq_mod]
 show IntKind.i64.wrap ((BitVec.ofInt 64 n &&& BitVec.ofInt 64 4294967295).toNat : Nat) = n % 4294967296
 rw [key, IntKind.wrap_i64]
 omega
theorem rsum_l0 (l : List Int) (hl : l.length ≤ 1000000) (hok : ∀ x ∈ l, i64ok x) : ∀ (n i : Nat) (a b : Int), l.length - i = n → i ≤ l.length → a * 4294967296 + b = (l.take i).sum → -(2147483648 * (i : Int)) ≤ a → a ≤ 2147483648 * (i : Int) → 0 ≤ b → b ≤ 4294967296 * (i : Int) → Ev (fun k => accountingref01_Sum.l0 k l a b (i : Int)) (if i64ok l.sum then (l.sum, true) else (0, false)) := by
 intro n
 induction n with
 | zero =>
  intro i a b hn hi he h1 h2 h3 h4
  rw [List.take_of_length_le (by omega)] at he
  have w1 : wrap64 (a + b / 4294967296) = a + b / 4294967296 := w64 (by omega) (by omega)
  refine Ev.step (fun k => accountingref01_Sum.l0.eq_2 _ _ _ _ k) ?_
  simp only [if_neg (show ¬ ((i : Int) < (l.length : Int)) by omega), w1, i64_low32]
  by_cases c1 : a + b / 4294967296 < -2147483648
  ·simp only [if_pos c1, if_neg (show ¬ i64ok l.sum by unfold i64ok; omega)]
   exact Ev.now _
  ·simp only [if_neg c1]
   by_cases c2 : a + b / 4294967296 > 2147483647
   ·simp only [if_pos c2, if_neg (show ¬ i64ok l.sum by unfold i64ok; omega)]
    exact Ev.now _
   ·simp only [if_neg c2, if_pos (show i64ok l.sum by unfold i64ok; omega)]
    have w2 : wrap64 (wrap64 ((a + b / 4294967296) * 4294967296) + b % 4294967296) = l.sum := by
     unfold wrap64
     omega
    rw [w2]
    exact Ev.now _
 | succ n ih =>
  intro i a b hn hi he h1 h2 h3 h4
  have hil : i < l.length := by omega
  have hv := hok _ (List.getElem_mem hil)
  unfold i64ok at hv
  have hw : wrap64 ((i : Int) + 1) = ((i + 1 : Nat) : Int) := by rw [w64 (by omega) (by omega)]; omega
  have w1 : wrap64 (a + l[i] / 4294967296) = a + l[i] / 4294967296 := w64 (by omega) (by omega)
  have w2 : wrap64 (b + l[i] % 4294967296) = b + l[i] % 4294967296 := w64 (by omega) (by omega)
  refine Ev.step (fun k => accountingref01_Sum.l0.eq_2 _ _ _ _ k) ?_
  simp only [if_pos (show ((i : Int) < (l.length : Int)) by omega), if_pos (show (0 : Int) ≤ (i : Int) by omega), hw, rd_at hil, i64_low32, w1, w2]
  refine ih (i + 1) _ _ (by omega) (by omega) ?_ (by push_cast; omega) (by push_cast; omega) (by omega) (by push_cast; omega)
  have ht : l.take (i + 1) = l.take i ++ [l[i]] := by rw [List.take_add_one, List.getElem?_eq_getElem hil]; rfl
  have e : (l.take (i + 1)).sum = (l.take i).sum + l[i] := by rw [ht, List.sum_append, List.sum_cons, List.sum_nil, Int.add_zero]
  rw [e]
  omega
theorem rsum_ev (l : List Int) (hl : l.length ≤ 1000000) (hok : ∀ x ∈ l, i64ok x) : Ev (fun k => accountingref01_Sum.f k l) (if i64ok l.sum then (l.sum, true) else (0, false)) :=
 rsum_l0 l hl hok _ 0 0 0 rfl (Nat.zero_le _) (by simp) (by simp) (by simp) (by simp) (by simp)
end Go.Proofs.YtppcjoaghlecmaaDoor.P
namespace Go.Proofs.YtppcjoaghlecmaaDoor.P
open Go.RowKit Go.Proofs.YtppcjoaghlecmaaDoorW.PrintWords Go.Proofs.YtppcjoaghlecmaaDoorW.PrintLast Go.Proofs.YtppcjoaghlecmaaDoorW.PrintMore
set_option linter.unusedVariables false
set_option linter.unusedSimpArgs false
theorem ofCur_take (l : List S109) (s : ByteArray) {i : Nat} (h : i < l.length) : ofCur (l.take (i + 1)) s = ofCur (l.take i) s ++ (if (l[i]).f1 = s then [l[i]] else []) := by
 rw [List.take_add_one, List.getElem?_eq_getElem h]
 exact ofCur_snoc _ _ _
theorem len_ofCur (l : List S109) (s : ByteArray) : (ofCur l s).length ≤ l.length := List.length_filter_le _ _
theorem sum_small : ∀ (l : List Int), (∀ x ∈ l, -1000000000000 ≤ x ∧ x ≤ 1000000000000) → -(1000000000000 * (l.length : Int)) ≤ l.sum ∧ l.sum ≤ 1000000000000 * (l.length : Int)
 | [], _ => by simp
 | x :: r, h => by
  have h1 := h x (by simp)
  have h2 := sum_small r (fun y hy => h y (by simp [hy]))
  simp only [List.sum_cons, List.length_cons]
  omega
theorem ba_iff (a b : ByteArray) : a.toList = b.toList ↔ a = b := by
 constructor
 ·intro h
  have := (ba_beq a b).1 (by simp [h])
  exact this
 ·rintro rfl; rfl
def sumsB (l : List S109) (s : ByteArray) : Int × Int × Bool := (((ofCur l s).map S109.f2).sum, ((ofCur l s).map S109.f3).sum, true)
theorem line_bnd {y : S109} (h : lineE y = 0) : (-1000000000000 ≤ y.f2 ∧ y.f2 ≤ 1000000000000) ∧ -1000000000000 ≤ y.f3 ∧ y.f3 ≤ 1000000000000 := by
 obtain ⟨_, _, _, h2, h3, _⟩ := line_ok h
 unfold ws at h2 h3
 rw [decide_eq_true_eq] at h2 h3
 omega
theorem sums_l0 (l : List S109) (s : ByteArray) (hl : l.length ≤ 100) (h : ∀ y ∈ l, lineE y = 0) : ∀ (n i : Nat), l.length - i = n → i ≤ l.length → Ev (fun k => accountingref12_sums.l0 k l s ((ofCur (l.take i) s).map S109.f2) ((ofCur (l.take i) s).map S109.f3) (i : Int)) (sumsB l s) := by
 intro n
 induction n with
 | zero =>
  intro i hn hi
  obtain rfl : i = l.length := by omega
  refine Ev.step (fun k => accountingref12_sums.l0.eq_2 _ _ _ _ _ k) ?_
  simp only [if_neg (show ¬ ((l.length : Int) < (l.length : Int)) by omega), List.take_length]
  have hle := len_ofCur l s
  have hm : ∀ y ∈ ofCur l s, lineE y = 0 := fun y hy => h y (List.mem_filter.1 hy).1
  have hA : ∀ x ∈ (ofCur l s).map S109.f2, -1000000000000 ≤ x ∧ x ≤ 1000000000000 := fun x hx => by
   obtain ⟨y, hy, rfl⟩ := List.mem_map.1 hx
   exact (line_bnd (hm y hy)).1
  have hB : ∀ x ∈ (ofCur l s).map S109.f3, -1000000000000 ≤ x ∧ x ≤ 1000000000000 := fun x hx => by
   obtain ⟨y, hy, rfl⟩ := List.mem_map.1 hx
   exact (line_bnd (hm y hy)).2
  have sA := sum_small _ hA
  have sB := sum_small _ hB
  rw [List.length_map] at sA sB
  have iA : i64ok ((ofCur l s).map S109.f2).sum := by unfold i64ok; omega
  have iB : i64ok ((ofCur l s).map S109.f3).sum := by unfold i64ok; omega
  have eA := rsum_ev ((ofCur l s).map S109.f2) (by rw [List.length_map]; omega) (fun x hx => by have := hA x hx; unfold i64ok; omega)
  have eB := rsum_ev ((ofCur l s).map S109.f3) (by rw [List.length_map]; omega) (fun x hx => by have := hB x hx; unfold i64ok; omega)
  rw [if_pos iA] at eA
  rw [if_pos iB] at eB
  refine Ev.bind eA (Ev.bind eB ?_)
  exact Ev.now _
 | succ n ih =>
  intro i hn hi
  have hil : i < l.length := by omega
  refine Ev.step (fun k => accountingref12_sums.l0.eq_2 _ _ _ _ _ k) ?_
  have hw : wrap64 ((i : Int) + 1) = ((i + 1 : Nat) : Int) := by rw [w64t (by omega) (by omega)]; omega
  have hi' := ih (i + 1) (by omega) (by omega)
  have hle := len_ofCur (l.take i) s
  rw [List.length_take] at hle
  rw [ofCur_take l s hil] at hi'
  simp only [if_pos (show ((i : Int) < (l.length : Int)) by omega), if_pos (show (0 : Int) ≤ (i : Int) by omega), hw, rd109 hil]
  by_cases hs : (l[i]).f1 = s
  ·rw [if_pos hs] at hi'
   simp only [List.map_append, List.map_cons, List.map_nil] at hi'
   simp only [if_pos ((ba_iff _ _).2 hs), List.length_map, if_pos (show (ofCur (l.take i) s).length < 17592186044416 by omega)]
   exact hi'
  ·rw [if_neg hs, List.append_nil] at hi'
   have hs' : ¬ (l[i]).f1.toList = s.toList := fun e => hs ((ba_iff _ _).1 e)
   simp only [if_neg hs']
   exact hi'
theorem sums_ev (l : List S109) (s : ByteArray) (hl : l.length ≤ 100) (h : ∀ y ∈ l, lineE y = 0) : Ev (fun k => accountingref12_sums.f k l s) (sumsB l s) := sums_l0 l s hl h _ 0 rfl (Nat.zero_le _)
def okS1 (l : List S109) (s : ByteArray) : Bool := decide (((ofCur l s).map S109.f2).sum = 0 ∧ ((ofCur l s).map S109.f3).sum = 0)
theorem rbal_l0 (l : List S109) (hl : l.length ≤ 100) (h : ∀ y ∈ l, lineE y = 0) (c : List ByteArray) (hc : c.length ≤ 100) : ∀ (n i : Nat), c.length - i = n → i ≤ c.length → Ev (fun k => accountingref12_Balanced.l0 k l c (i : Int)) ((c.drop i).all (okS1 l)) := by
 intro n
 induction n with
 | zero =>
  intro i hn hi
  obtain rfl : i = c.length := by omega
  refine Ev.step (fun k => accountingref12_Balanced.l0.eq_2 _ _ _ k) ?_
  simp only [if_neg (show ¬ ((c.length : Int) < (c.length : Int)) by omega), List.drop_length, List.all_nil]
  exact Ev.now _
 | succ n ih =>
  intro i hn hi
  have hil : i < c.length := by omega
  refine Ev.step (fun k => accountingref12_Balanced.l0.eq_2 _ _ _ k) ?_
  have hw : wrap64 ((i : Int) + 1) = ((i + 1 : Nat) : Int) := by rw [w64t (by omega) (by omega)]; omega
  have hr : rdOf ByteArray.empty c (i : Int) = c[i] := by simp [rdOf, hil]
  have hi' := ih (i + 1) (by omega) (by omega)
  simp only [if_pos (show ((i : Int) < (c.length : Int)) by omega), if_pos (show (0 : Int) ≤ (i : Int) by omega), hw, hr]
  refine Ev.bind (sums_ev l c[i] hl h) ?_
  rw [List.drop_eq_getElem_cons hil, List.all_cons]
  unfold sumsB okS1
  generalize (List.map S109.f2 (ofCur l c[i])).sum = a
  generalize (List.map S109.f3 (ofCur l c[i])).sum = b
  by_cases h1 : a = 0
  ·by_cases h2 : b = 0
   ·simp only [if_true, if_pos h1, if_pos h2]
    rw [decide_eq_true ⟨h1, h2⟩, Bool.true_and]
    exact hi'
   ·simp only [if_true, if_pos h1, if_neg h2]
    rw [decide_eq_false (fun e => h2 e.2), Bool.false_and]
    exact Ev.now _
  ·simp only [if_true, if_neg h1]
   rw [decide_eq_false (fun e => h1 e.1), Bool.false_and]
   exact Ev.now _
theorem rbal_ev (l : List S109) (hl : l.length ≤ 100) (h : ∀ y ∈ l, lineE y = 0) : Ev (fun k => accountingref12_Balanced.f k l) (balB l) := by
 unfold accountingref12_Balanced.f accountingref12_currencies.f
 simp only [if_pos (show l.length ≤ 1000000 by omega), Option.bind_some]
 have := rbal_l0 l hl h (curK l) (by have := curK_len l; omega) _ 0 rfl (Nat.zero_le _)
 have e : (curK l).all (okS1 l) = balB l := by
  rw [balB_eq, Bool.eq_iff_iff, List.all_eq_true, List.all_eq_true]
  constructor
  ·intro h1 x hx
   exact h1 x.f1 ((curK_mem x.f1 l).2 ⟨x, hx, rfl⟩)
  ·intro h1 c hc
   obtain ⟨x, hx, rfl⟩ := (curK_mem c l).1 hc
   exact h1 x hx
 rw [List.drop_zero, e] at this
 exact this
theorem rchk_l0 (x : S29) (hx : ShortEn x) (hl : x.f8.length ≤ 100) : ∀ (n i : Nat), x.f8.length - i = n → i ≤ x.f8.length → (∀ y ∈ x.f8.take i, lineE y = 0) → Ev (fun k => accountingref12_Check.l0 k (i : Int) x.f0 x.f1 x.f2 x.f3 x.f4 x.f5 x.f6 x.f7 x.f8) (match linesE i (x.f8.drop i) with | some e => e | none => if balB x.f8 = true then (-1, 0) else (-1, 15)) := by
 intro n
 induction n with
 | zero =>
  intro i hn hi hz
  obtain rfl : i = x.f8.length := by omega
  refine Ev.step (fun k => accountingref12_Check.l0.eq_2 _ _ _ _ _ _ _ _ _ _ k) ?_
  rw [List.take_length] at hz
  simp only [if_neg (show ¬ ((x.f8.length : Int) < (x.f8.length : Int)) by omega), List.drop_length, linesE]
  refine Ev.bind (rbal_ev x.f8 hl hz) ?_
  cases balB x.f8 <;> exact Ev.now _
 | succ n ih =>
  intro i hn hi hz
  have hil : i < x.f8.length := by omega
  refine Ev.step (fun k => accountingref12_Check.l0.eq_2 _ _ _ _ _ _ _ _ _ _ k) ?_
  have hw : wrap64 ((i : Int) + 1) = ((i + 1 : Nat) : Int) := by rw [w64t (by omega) (by omega)]; omega
  simp only [if_pos (show ((i : Int) < (x.f8.length : Int)) by omega), if_pos (show (0 : Int) ≤ (i : Int) by omega), hw, rd109 hil]
  refine Ev.bind (rline_ev x.f8[i] (hx.ln _ (List.getElem_mem _))) ?_
  rw [List.drop_eq_getElem_cons hil]
  unfold linesE
  by_cases h0 : lineE x.f8[i] = 0
  ·simp only [if_pos h0]
   refine ih (i + 1) (by omega) (by omega) (fun y hy => ?_)
   rw [List.take_add_one, List.getElem?_eq_getElem hil] at hy
   rcases List.mem_append.1 hy with hy | hy
   ·exact hz y hy
   ·simp at hy
    subst hy
    exact h0
  ·simp only [if_neg h0]
   exact Ev.now _
theorem rchk_ev (x : S29) (hx : ShortEn x) : Ev (fun k => accountingref12_Check.f k x.f0 x.f1 x.f2 x.f3 x.f4 x.f5 x.f6 x.f7 x.f8) (chkE x) := by
 unfold accountingref12_Check.f chkE
 refine Ev.bind (rhead_ev x hx) ?_
 by_cases h : headE x = 0
 ·simp only [if_pos h]
  exact rchk_l0 x hx (head_len h).2.1 _ 0 rfl (Nat.zero_le _) (fun y hy => by simp at hy)
 ·simp only [if_neg h]
  exact Ev.now _
def keyL (e : ByteArray) (y : S109) : S40 := ⟨e, y.f0, y.f1, y.f4, (textL y.f6).1⟩
def cellL (e : ByteArray) (y : S109) : S112 := ⟨keyL e y, y.f2, y.f3⟩
def rawL (x : S29) : List S112 := x.f8.map (cellL x.f1)
theorem raw_l0 (x : S29) (hl : x.f8.length ≤ 1000000) : ∀ (n i : Nat), x.f8.length - i = n → i ≤ x.f8.length → Ev (fun k => ledger_raw.l0 k ((x.f8.take i).map (cellL x.f1)) x.f8 (x.f8.length : Int) (i : Int) x.f0 x.f1 x.f2 x.f3 x.f4 x.f5 x.f6 x.f7 x.f8) (rawL x) := by
 intro n
 induction n with
 | zero =>
  intro i hn hi
  obtain rfl : i = x.f8.length := by omega
  refine Ev.step (fun k => ledger_raw.l0.eq_2 _ _ _ _ _ _ _ _ _ _ _ _ _ k) ?_
  simp only [if_neg (show ¬ ((x.f8.length : Int) < (x.f8.length : Int)) by omega), List.take_length]
  exact Ev.now _
 | succ n ih =>
  intro i hn hi
  have hil : i < x.f8.length := by omega
  refine Ev.step (fun k => ledger_raw.l0.eq_2 _ _ _ _ _ _ _ _ _ _ _ _ _ k) ?_
  have hw : wrap64 ((i : Int) + 1) = ((i + 1 : Nat) : Int) := by rw [w64t (by omega) (by omega)]; omega
  simp only [if_pos (show ((i : Int) < (x.f8.length : Int)) by omega), if_pos (show (0 : Int) ≤ (i : Int) by omega), hw, rd109 hil]
  refine Ev.bind (Text_ev _) ?_
  have hi' := ih (i + 1) (by omega) (by omega)
  rw [List.take_add_one, List.getElem?_eq_getElem hil] at hi'
  simp only [List.map_append, Option.toList_some, List.map_cons, List.map_nil] at hi'
  simp only [List.length_map, List.length_take, if_pos (show min i x.f8.length < 1466015503701 by omega)]
  exact hi'
theorem raw_ev (x : S29) (hl : x.f8.length ≤ 1000000) : Ev (fun k => ledger_raw.f k x.f0 x.f1 x.f2 x.f3 x.f4 x.f5 x.f6 x.f7 x.f8) (rawL x) := by
 unfold ledger_raw.f
 simp only [if_pos hl]
 exact raw_l0 x hl _ 0 rfl (Nat.zero_le _)
theorem chk_two {x : S29} (h : (chkE x).2 = 0) : headE x = 0 ∧ (∀ y ∈ x.f8, lineE y = 0) ∧ balB x.f8 = true ∧ chkE x = (-1, 0) := by
 have h' := h
 unfold chkE at h'
 by_cases h0 : headE x = 0
 ·rw [if_pos h0] at h'
  cases hL : linesE 0 x.f8 with
  | some e =>
   rw [hL] at h'
   exfalso
   have aux : ∀ (l : List S109) (i : Nat) (e : Int × Int), linesE i l = some e → e.2 ≠ 0 := by
    intro l
    induction l with
    | nil => intro i e he; cases he
    | cons z r ih =>
     intro i e he
     unfold linesE at he
     split at he
     ·exact ih _ _ he
     ·rename_i hz
      cases he
      exact hz
   exact aux _ _ _ hL h'
  | none =>
   rw [hL] at h'
   by_cases hb : balB x.f8 = true
   ·refine ⟨h0, linesE_none hL, hb, ?_⟩
    unfold chkE
    rw [if_pos h0, hL]
    exact if_pos hb
   ·exfalso
    have : (if balB x.f8 = true then ((-1, 0) : Int × Int) else (-1, 15)).2 = 0 := h'
    rw [if_neg hb] at this
    exact absurd this (by decide)
 ·rw [if_neg h0] at h'
  exact absurd h' h0
end Go.Proofs.YtppcjoaghlecmaaDoor.P
namespace Go.Proofs.YtppcjoaghlecmaaDoor.P
open Go.RowKit Go.Sort Go.Proofs.YtppcjoaghlecmaaDoorW.PrintWords Go.Proofs.YtppcjoaghlecmaaDoorW.PrintLast Go.Proofs.YtppcjoaghlecmaaDoorW.PrintMore Go.Maps Go.ChangeShapes Go.WideShapes Go.WideMaps
set_option linter.unusedVariables false
set_option linter.unusedSimpArgs false
structure Pst where
 h : S29
 C : List S112
 v : Value
def hdV (x : S29) (l : Value) : Value := .agg #[.int .i64 x.f0, .string x.f1, .int .i64 x.f2, .int .i64 x.f3, .int .i64 x.f4, .string x.f5, .string x.f6, .int .i64 x.f7, l]
def pstV (x : S29) (v : Value) : Value := .agg #[.int .i64 x.f0, .string x.f1, .int .i64 x.f2, .int .i64 x.f3, .int .i64 x.f4, .string x.f5, .string x.f6, .int .i64 x.f7, .slice none 0 0, v]
def z118V : Value := pstV z29 (.slice none 0 0)
def valL (L : List Pst) (j : Int) : Value := if j < 1 then z118V else match L[(j - 1).toNat]? with | some c => pstV c.h c.v | none => z118V
theorem zero118 (w : World) : (zeroValue 118).run Tryd.prog w = .ok z118V w := by kernel_rfl
theorem intKeyed : Keyed Tryd.prog 3 := int_keyed Tryd.underlying3
theorem keyI {j : Int} (h : i64ok j) : keyOf Tryd.prog 3 (.int .i64 j) = some (.int .i64 j) := keyOf_int_mk Tryd.underlying3 (by
 have h2 : IntKind.i64.min = -9223372036854775808 := by decide
 unfold i64ok at h
 simp [Lit.wf, h2]
 omega)
theorem int_ne {a b : Int} (h : a ≠ b) : Lit.int IntKind.i64 a ≠ Lit.int IntKind.i64 b := by
 intro h'
 simp only [Lit.int.injEq] at h'
 exact h h'.2
structure Led (w : World) (base p m : Nat) (L : List Pst) : Prop where
 blk : w.heap[p]? = some (.cells #[.map (some m)] 121 (0, 0))
 map : ∃ D : DataW Value, w.ownsMap Tryd.prog 3 vR m L.length D ∧ Maps.size D = L.length ∧ (∀ j : Int, i64ok j → D.atKey (.int .i64 j) (.held z118V) = .held (valL L j)) ∧ ∀ j : Int, i64ok j → Maps.has D (.int .i64 j) = decide (1 ≤ j ∧ j ≤ L.length)
 row : ∀ c ∈ L, Kd.R k112 112 w base (fun _ => True) c.v c.C
 lowp : base ≤ p
 lowm : base ≤ m
section
variable {w w' : World} {base p m : Nat} {L : List Pst}
theorem Led.ltm (h : Led w base p m L) : m < w.heap.size := by
 obtain ⟨D, ⟨es, clock, h1, h2⟩, _⟩ := h.map
 exact (Array.getElem?_eq_some_iff.1 h1).1
theorem Led.ltp (h : Led w base p m L) : p < w.heap.size := blk_lt h.blk
theorem Led.ne (h : Led w base p m L) : p ≠ m := by
 rintro rfl
 obtain ⟨D, ⟨es, clock, h1, h2⟩, _⟩ := h.map
 rw [h.blk] at h1; cases h1
theorem Led.below (h : Led w base p m L) (hb : Below w.heap.size w w') : Led w' base p m L := by
 obtain ⟨D, ⟨es, clock, h1, h2⟩, hD⟩ := h.map
 exact ⟨(hb.block p h.ltp).trans h.blk, ⟨D, ⟨es, clock, (hb.block m h.ltm).trans h1, h2⟩, hD⟩, fun c hc => Kd.R_below (h.row c hc) hb, h.lowp, h.lowm⟩
theorem Led.len (h : Led w base p m L) (ty : TypeId) : (Builtin.len_ #[119] ty #[.map (some m)]).run Tryd.prog w = .ok (.int .i64 L.length) w := by
 obtain ⟨D, ho, hs, _⟩ := h.map
 rw [← hs]
 exact ho.len Tryd.underlying119 ty
theorem Led.look (h : Led w base p m L) {j : Int} (hj : i64ok j) : (Instr.lookup 119 (.map (some m)) (.int .i64 j) false).run Tryd.prog w = .ok (valL L j) w := by
 obtain ⟨D, ho, _, hD, _⟩ := h.map
 obtain ⟨v, ps, hrun, hv⟩ := ho.lookup intKeyed Tryd.underlying119 (zero118 w) (zd := .held z118V) (zp := []) rfl (keyI hj)
 rw [hrun]
 simp only [vR, Option.some.injEq, Prod.mk.injEq] at hv
 rw [hD j hj] at hv
 simp only [DataW.held.injEq] at hv
 rw [hv.1]
theorem valL_at {c : Pst} {i : Nat} (h : L[i]? = some c) : valL L ((i : Int) + 1) = pstV c.h c.v := by
 unfold valL
 rw [if_neg (by omega), show ((i : Int) + 1 - 1).toNat = i from by omega, h]
theorem valL_snoc {c : Pst} (j : Int) : valL (L ++ [c]) j = if j = (L.length : Int) + 1 then pstV c.h c.v else valL L j := by
 unfold valL
 by_cases h1 : j < 1
 ·rw [if_pos h1, if_pos h1, if_neg (by omega)]
 rw [if_neg h1, if_neg h1]
 by_cases e : j = (L.length : Int) + 1
 ·rw [if_pos e, show (j - 1).toNat = L.length from by omega]
  simp
 rw [if_neg e]
 by_cases h2 : (j - 1).toNat < L.length
 ·rw [List.getElem?_append_left h2]
 rw [List.getElem?_eq_none (l := L) (by omega), List.getElem?_eq_none (by simp; omega)]
theorem Led.put (h : Led w base p m L) {c : Pst} (hL : L.length < 1000000) (hc : Kd.R k112 112 w base (fun _ => True) c.v c.C) :
  ∃ w', (Instr.mapUpdate 119 (.map (some m)) (.int .i64 ((L.length : Int) + 1)) (pstV c.h c.v)).run Tryd.prog w = .ok () w' ∧ Led w' base p m (L ++ [c]) ∧ w.grownBy w' (some m) := by
 obtain ⟨D, ho, hs, hD, hh⟩ := h.map
 have hM := World.ownsMap.isMap ho
 have hT := World.ownsMap.tidy ho intKeyed
 have hj : i64ok ((L.length : Int) + 1) := by unfold i64ok; omega
 obtain ⟨w', hrun, ho', hg⟩ := ho.update intKeyed Tryd.underlying119 (by unfold maxLen; omega) (val := pstV c.h c.v) (d := .held (pstV c.h c.v)) (ps := []) (keyI hj) rfl
 have hblk : ∀ k, k < w.heap.size → k ≠ m → w'.heap[k]? = w.heap[k]? := fun k hk hne => hg.block k hk (fun e => hne (Option.some.inj e))
 have hrow : ∀ d : Pst, Kd.R k112 112 w base (fun _ => True) d.v d.C → Kd.R k112 112 w' base (fun _ => True) d.v d.C := fun d hd => by
  have h1 := Kd.R_mono (Kd.R_tight rfl hd) (ok' := fun k => d.v.ownBlock = some k) (fun k hk => hk.symm)
  have h2 := Kd.R_step h1 (w1 := w') (fun k hk hlt => by
   obtain ⟨cs, hcs⟩ := Kd.R_typed hd k hk
   refine hblk k hlt (fun e => ?_)
   subst e
   obtain ⟨es, cl, h1, _⟩ := ho
   rw [hcs] at h1; cases h1)
  exact Kd.R_mono h2 (fun _ _ => trivial)
 refine ⟨w', hrun, ⟨(hblk p h.ltp h.ne).trans h.blk, ⟨_, by rw [List.length_append]; exact ho', ?_, fun t ht => ?_, fun t ht => ?_⟩, fun d hd => ?_, h.lowp, h.lowm⟩, hg⟩
 ·rw [size_put hT, hh _ hj, hs]
  rw [if_neg (by simp; omega)]
  simp
 ·rw [valL_snoc]
  by_cases e : t = (L.length : Int) + 1
  ·subst e
   rw [atKey_put_same hM (intKeyed.key (keyI hj)), if_pos rfl]
  rw [atKey_put_other (int_ne e), if_neg e, hD t ht]
 ·by_cases e : t = (L.length : Int) + 1
  ·subst e
   rw [has_put_same hM (intKeyed.key (keyI hj))]
   simp
   omega
  rw [has_put_other (int_ne e), hh t ht]
  simp only [List.length_append, List.length_cons, List.length_nil]
  rw [decide_eq_decide]
  omega
 ·rcases List.mem_append.1 hd with hd | hd
  ·exact hrow d (h.row d hd)
  ·rw [List.mem_singleton] at hd
   subst hd
   exact hrow d hc
theorem Led.made (w : World) : Led ((w.alloc (.map #[] 0)).alloc (.cells #[.map (some w.heap.size)] 121 (0, 0))) w.heap.size (w.heap.size + 1) w.heap.size [] := by
 have h1 : (w.alloc (.map #[] 0)).heap.size = w.heap.size + 1 := by simp
 refine ⟨by rw [← h1]; exact blk_new _ _, ⟨.map [], ?_, rfl, (fun j hj => ?_), (fun j hj => ?_)⟩, (fun c hc => by cases hc), Nat.le_succ _, Nat.le_refl _⟩
 ·obtain ⟨es, clock, h2, h3⟩ := World.ownsMap_made w Tryd.prog 3 vR
  exact ⟨es, clock, ((below_alloc (Below.refl _ _) _).block w.heap.size (by rw [h1]; omega)).trans h2, h3⟩
 ·unfold valL
  by_cases h1 : j < 1
  ·rw [if_pos h1]; rfl
  rw [if_neg h1]; rfl
 ·have : (decide (1 ≤ j ∧ j ≤ (([] : List Pst).length : Int))) = false := decide_eq_false (by simp; omega)
  rw [this]; rfl
end
end Go.Proofs.YtppcjoaghlecmaaDoor.P
namespace Go.Proofs.YtppcjoaghlecmaaDoor.P
open Go.RowKit Go.Proofs.YtppcjoaghlecmaaDoorW.PrintWords Go.Proofs.YtppcjoaghlecmaaDoorW.PrintLast Go.Proofs.YtppcjoaghlecmaaDoorW.PrintMore
set_option linter.unusedVariables false
set_option linter.unusedSimpArgs false
def ahead (E : List S29) (x : S29) : Bool := match E.getLast? with | some y => decide (x.f2 < y.f2) | none => false
def postC (E : List S29) (x : S29) : Int :=
 if (chkE x).2 ≠ 0 then (chkE x).2 else if x.f0 ≠ (E.length : Int) + 1 ∨ ahead E x = true then 17 else if E.length ≥ 4000 then 9 else 0
def postE (E : List S29) (x : S29) : List S29 := if postC E x = 0 then E ++ [x] else E
def LedE (w : World) (base p m : Nat) (E : List S29) : Prop := ∃ L, Led w base p m L ∧ L.map Pst.h = E ∧ ∀ c ∈ L, c.C = rawL c.h
theorem LedE.below {w w' : World} {base p m : Nat} {E : List S29} (h : LedE w base p m E) (hb : Below w.heap.size w w') : LedE w' base p m E := by
 obtain ⟨L, h1, h2, h3⟩ := h
 exact ⟨L, h1.below hb, h2, h3⟩
theorem LedE.lowm {w : World} {base p m : Nat} {E : List S29} (h : LedE w base p m E) : base ≤ m := by
 obtain ⟨L, h1, _⟩ := h
 exact h1.lowm
end Go.Proofs.YtppcjoaghlecmaaDoor.P
namespace Go.Proofs.YtppcjoaghlecmaaDoor.P
open Go.RowKit Go.Sort Go.Proofs.YtppcjoaghlecmaaDoorW.PrintWords Go.Proofs.YtppcjoaghlecmaaDoorW.PrintLast Go.Proofs.YtppcjoaghlecmaaDoorW.PrintMore Go.Maps Go.ChangeShapes Go.WideShapes Go.WideMaps
set_option linter.unusedVariables false
set_option linter.unusedSimpArgs false
theorem lnew_calls (w : World) : Calls Tryd.prog 22 #[] w fun e w' => ∃ p m, e = .returned (.pointer (some ⟨p, 0, none⟩)) ∧ Led w' w.heap.size p m [] ∧ Below w.heap.size w w' := by
 have hmm := @run_makeMap Tryd.prog
 go_enter Tryd.func22, Tryd.ntmps22
 go_wp2
 go_ret
 exact ⟨_, _, rfl, Led.made w, below_alloc (below_alloc (Below.refl _ _) _) _⟩
theorem llen_calls {w : World} {base p m : Nat} {L : List Pst} (h : Led w base p m L) : Calls Tryd.prog 23 #[.pointer (some ⟨p, 0, none⟩)] w fun e w' => e = .returned (.int .i64 L.length) ∧ Below w.heap.size w w' := by
 have hl := h.len 3
 have hc := (blk_cell h.blk 0).trans rfl
 go_enter Tryd.func23, Tryd.ntmps23
 go_wp2
 go_ret
 exact ⟨rfl, Below.refl _ _⟩
abbrev enV (x : S29) (A : Option Addr) (c : Nat) : Value := .agg #[.int .i64 x.f0, .string x.f1, .int .i64 x.f2, .int .i64 x.f3, .int .i64 x.f4, .string x.f5, .string x.f6, .int .i64 x.f7, .slice A x.f8.length c]
set_option maxHeartbeats 4000000 in
set_option maxRecDepth 100000 in
theorem post_bad {p : Nat} (x : S29) (A : Option Addr) (c : Nat) (w : World) (hC : Kd.C k109 w A x.f8.length x.f8) (hc : x.f8.length ≤ c) (hT : Tab w) (hf : FitE x) (hne : (chkE x).2 ≠ 0) :
  Calls Tryd.prog 20 #[.pointer (some ⟨p, 0, none⟩), enV x A c] w fun e w' => e = .returned (.int .i64 (chkE x).2) ∧ Below w.heap.size w w' := by
 obtain ⟨k, hk⟩ := (chk_ev x hf).rounds
 obtain ⟨at_, er, he⟩ : ∃ a e, chkE x = (a, e) := ⟨_, _, rfl⟩
 rw [he] at hk hne
 rw [he]
 have d1 : decide (er = 0) = false := decide_eq_false hne
 have HC := Aside0.mk hC
 have HT := Aside0.mk hT
 have HK := Aside0.mk hk
 have HL := Aside0.mk hc
 have HB1 := Aside0.mk (below_alloc (Below.refl w.heap.size w) (.cells #[.int .i64 x.f0, .string x.f1, .int .i64 x.f2, .int .i64 x.f3, .int .i64 x.f4, .string x.f5, .string x.f6, .int .i64 x.f7, .slice A x.f8.length c] 29))
 clear hC hT hk he hc
 go_enter Tryd.func20, Tryd.ntmps20
 go_wp2_with (first | (go_at_call 47; refine (entry_Check.calls k x.f0 x.f1 x.f2 x.f3 x.f4 x.f5 x.f6 x.f7 A c x.f8 at_ er _ (Kd.C_below HC.out HB1.out) HL.out HK.out (HT.out.below HB1.out)).mono ?_; rintro e w2 ⟨rfl, hb⟩))
 go_ret
 exact ⟨rfl, below_then HB1.out HB1.out.size hb⟩
set_option maxHeartbeats 4000000 in
set_option maxRecDepth 100000 in
theorem post_order {base p m : Nat} {E : List S29} (x : S29) (A : Option Addr) (c : Nat) (w : World) (hL : LedE w base p m E) (hC : Kd.C k109 w A x.f8.length x.f8) (hc : x.f8.length ≤ c) (hT : Tab w) (hf : FitE x) (hchk : (chkE x).2 = 0) (hlen : E.length ≤ 100000) (ho : x.f0 ≠ (E.length : Int) + 1) :
  Calls Tryd.prog 20 #[.pointer (some ⟨p, 0, none⟩), enV x A c] w fun e w' => e = .returned (.int .i64 17) ∧ Below w.heap.size w w' := by
 obtain ⟨k, hk⟩ := (chk_ev x hf).rounds
 rw [(chk_two hchk).2.2.2] at hk
 have HC := Aside0.mk hC
 have HT := Aside0.mk hT
 have HK := Aside0.mk hk
 have HLC := Aside0.mk hc
 have HB1 := Aside0.mk (below_alloc (Below.refl w.heap.size w) (.cells #[.int .i64 x.f0, .string x.f1, .int .i64 x.f2, .int .i64 x.f3, .int .i64 x.f4, .string x.f5, .string x.f6, .int .i64 x.f7, .slice A x.f8.length c] 29))
 have HBX := Aside0.mk (blk_new w (.cells #[.int .i64 x.f0, .string x.f1, .int .i64 x.f2, .int .i64 x.f3, .int .i64 x.f4, .string x.f5, .string x.f6, .int .i64 x.f7, .slice A x.f8.length c] 29))
 obtain ⟨L, hLed, hE, hraw⟩ := hL
 have hLn : E.length = L.length := by rw [← hE, List.length_map]
 rw [hLn] at ho hlen
 have HLED := Aside0.mk (hLed.below HB1.out)
 have HHL := Aside0.mk hlen
 clear hC hT hk hc hLed hE hraw hchk hLn
 have hp := (blk_cell HLED.out.blk 0).trans rfl
 have hw1 : wrap64 ((L.length : Int) + 1) = (L.length : Int) + 1 := by unfold wrap64; omega
 have d1 : (x.f0 != (L.length : Int) + 1) = true := by simpa using ho
 go_enter Tryd.func20, Tryd.ntmps20
 go_upto_region 7 with (first | (go_at_call 47; refine (entry_Check.calls k x.f0 x.f1 x.f2 x.f3 x.f4 x.f5 x.f6 x.f7 A c x.f8 (-1) 0 _ (Kd.C_below HC.out HB1.out) HLC.out HK.out (HT.out.below HB1.out)).mono ?_; rintro e w2 ⟨rfl, hb⟩; have HLED2 := Aside0.mk (HLED.out.below hb); have hln := HLED2.out.len 3; have hp2 : w2.cell? ⟨p, 0, none⟩ = some (.map (some m)) := (blk_cell HLED2.out.blk 0).trans rfl; have hb2 := blk_below HBX.out hb; have a0 : w2.cell? ⟨w.heap.size, 0, none⟩ = some (.int .i64 x.f0) := (blk_cell hb2 0).trans rfl; have a2 : w2.cell? ⟨w.heap.size, 2, none⟩ = some (.int .i64 x.f2) := (blk_cell hb2 2).trans rfl; clear hb2 hp))
 have HB2 := Aside0.mk (below_then HB1.out HB1.out.size hb)
 clear hb
 go_big_quiet (fail)
 go_wp2
 go_ret
 exact ⟨rfl, pw_below_drewN HB2.out nq⟩
set_option maxHeartbeats 4000000 in
set_option maxRecDepth 100000 in
theorem post_order2 {base p m : Nat} {E : List S29} (x y : S29) (A : Option Addr) (c : Nat) (w : World) (hL : LedE w base p m E) (hC : Kd.C k109 w A x.f8.length x.f8) (hc : x.f8.length ≤ c) (hT : Tab w) (hf : FitE x) (hchk : (chkE x).2 = 0) (hlen : E.length ≤ 100000) (ho : x.f0 = (E.length : Int) + 1) (hy : E.getLast? = some y) (hxy : x.f2 < y.f2) :
  Calls Tryd.prog 20 #[.pointer (some ⟨p, 0, none⟩), enV x A c] w fun e w' => e = .returned (.int .i64 17) ∧ Below w.heap.size w w' := by
 obtain ⟨k, hk⟩ := (chk_ev x hf).rounds
 rw [(chk_two hchk).2.2.2] at hk
 have HC := Aside0.mk hC
 have HT := Aside0.mk hT
 have HK := Aside0.mk hk
 have HLC := Aside0.mk hc
 have HB1 := Aside0.mk (below_alloc (Below.refl w.heap.size w) (.cells #[.int .i64 x.f0, .string x.f1, .int .i64 x.f2, .int .i64 x.f3, .int .i64 x.f4, .string x.f5, .string x.f6, .int .i64 x.f7, .slice A x.f8.length c] 29))
 have HBX := Aside0.mk (blk_new w (.cells #[.int .i64 x.f0, .string x.f1, .int .i64 x.f2, .int .i64 x.f3, .int .i64 x.f4, .string x.f5, .string x.f6, .int .i64 x.f7, .slice A x.f8.length c] 29))
 obtain ⟨L, hLed, hE, hraw⟩ := hL
 have hLn : E.length = L.length := by rw [← hE, List.length_map]
 rw [hLn] at ho hlen
 have hcl : ∃ d, L[L.length - 1]? = some d ∧ d.h = y ∧ 0 < L.length := by
  rw [← hE, List.getLast?_map, List.getLast?_eq_getElem?] at hy
  obtain ⟨d, hd, rfl⟩ := Option.map_eq_some_iff.1 hy
  exact ⟨d, hd, rfl, by have := (List.getElem?_eq_some_iff.1 hd).1; omega⟩
 obtain ⟨d, hd, rfl, h0⟩ := hcl
 obtain ⟨Ad, cd, hdv⟩ := Kd.R_slice (hLed.row d (List.mem_of_getElem? hd))
 have hval : valL L (L.length : Int) = pstV d.h (.slice Ad d.C.length cd) := by
  have := valL_at hd
  rw [show ((L.length - 1 : Nat) : Int) + 1 = (L.length : Int) from by omega, hdv] at this
  exact this
 unfold pstV at hval
 have HLED := Aside0.mk (hLed.below HB1.out)
 have HHL := Aside0.mk hlen
 have HVAL := Aside0.mk hval
 have HI := Aside0.mk (show i64ok (L.length : Int) from by unfold i64ok; omega)
 have hfa : ∀ w, (Instr.field 118 (.agg #[.int .i64 d.h.f0, .string d.h.f1, .int .i64 d.h.f2, .int .i64 d.h.f3, .int .i64 d.h.f4, .string d.h.f5, .string d.h.f6, .int .i64 d.h.f7, .slice none 0 0, .slice Ad d.C.length cd]) 0).run Tryd.prog w = .ok (.agg #[.int .i64 d.h.f0, .string d.h.f1, .int .i64 d.h.f2, .int .i64 d.h.f3, .int .i64 d.h.f4, .string d.h.f5, .string d.h.f6, .int .i64 d.h.f7, .slice none 0 0]) w := fun w => by kernel_rfl
 have hfb : ∀ w, (Instr.field 29 (.agg #[.int .i64 d.h.f0, .string d.h.f1, .int .i64 d.h.f2, .int .i64 d.h.f3, .int .i64 d.h.f4, .string d.h.f5, .string d.h.f6, .int .i64 d.h.f7, .slice none 0 0]) 2).run Tryd.prog w = .ok (.int .i64 d.h.f2) w := fun w => by kernel_rfl
 have d1 : (x.f0 != (L.length : Int) + 1) = false := by simpa using ho
 have d2 : decide ((0 : Int) < (L.length : Int)) = true := decide_eq_true (by omega)
 have d2' : decide (0 < L.length) = true := decide_eq_true h0
 have d3 : decide (x.f2 < d.h.f2) = true := decide_eq_true hxy
 clear hC hT hk hc hLed hE hraw hchk hLn hd hdv hval hy hxy hlen ho
 have hp := (blk_cell HLED.out.blk 0).trans rfl
 have hw1 : wrap64 ((L.length : Int) + 1) = (L.length : Int) + 1 := by have := HHL.out; unfold wrap64; omega
 go_enter Tryd.func20, Tryd.ntmps20
 go_upto_region 7 with (first | (go_at_call 47; refine (entry_Check.calls k x.f0 x.f1 x.f2 x.f3 x.f4 x.f5 x.f6 x.f7 A c x.f8 (-1) 0 _ (Kd.C_below HC.out HB1.out) HLC.out HK.out (HT.out.below HB1.out)).mono ?_; rintro e w2 ⟨rfl, hb⟩; have HLED2 := Aside0.mk (HLED.out.below hb); have hln := HLED2.out.len 3; have hp2 : w2.cell? ⟨p, 0, none⟩ = some (.map (some m)) := (blk_cell HLED2.out.blk 0).trans rfl; have hb2 := blk_below HBX.out hb; have a0 : w2.cell? ⟨w.heap.size, 0, none⟩ = some (.int .i64 x.f0) := (blk_cell hb2 0).trans rfl; have a2 : w2.cell? ⟨w.heap.size, 2, none⟩ = some (.int .i64 x.f2) := (blk_cell hb2 2).trans rfl; clear hb2 hp))
 have HB2 := Aside0.mk (below_then HB1.out HB1.out.size hb)
 clear hb
 have hlk : ∀ n, (Instr.lookup 119 (.map (some m)) (.int .i64 (L.length : Int)) false).run Tryd.prog (w2.drewN n) = .ok _ (w2.drewN n) := fun n => ((HLED2.out.below (pw_below_drewN (Below.refl _ w2) n)).look HI.out).trans (by rw [HVAL.out])
 go_big_quiet (fail)
 go_wp2
 go_ret
 exact ⟨rfl, pw_below_drewN HB2.out nq⟩
set_option maxHeartbeats 4000000 in
set_option maxRecDepth 100000 in
theorem post_many {base p m : Nat} {E : List S29} (x y : S29) (A : Option Addr) (c : Nat) (w : World) (hL : LedE w base p m E) (hC : Kd.C k109 w A x.f8.length x.f8) (hc : x.f8.length ≤ c) (hT : Tab w) (hf : FitE x) (hchk : (chkE x).2 = 0) (hlen : E.length ≤ 100000) (ho : x.f0 = (E.length : Int) + 1) (hy : E.getLast? = some y) (hxy : ¬ x.f2 < y.f2) (h4 : 4000 ≤ E.length) :
  Calls Tryd.prog 20 #[.pointer (some ⟨p, 0, none⟩), enV x A c] w fun e w' => e = .returned (.int .i64 9) ∧ Below w.heap.size w w' := by
 obtain ⟨k, hk⟩ := (chk_ev x hf).rounds
 rw [(chk_two hchk).2.2.2] at hk
 have HC := Aside0.mk hC
 have HT := Aside0.mk hT
 have HK := Aside0.mk hk
 have HLC := Aside0.mk hc
 have HB1 := Aside0.mk (below_alloc (Below.refl w.heap.size w) (.cells #[.int .i64 x.f0, .string x.f1, .int .i64 x.f2, .int .i64 x.f3, .int .i64 x.f4, .string x.f5, .string x.f6, .int .i64 x.f7, .slice A x.f8.length c] 29))
 have HBX := Aside0.mk (blk_new w (.cells #[.int .i64 x.f0, .string x.f1, .int .i64 x.f2, .int .i64 x.f3, .int .i64 x.f4, .string x.f5, .string x.f6, .int .i64 x.f7, .slice A x.f8.length c] 29))
 obtain ⟨L, hLed, hE, hraw⟩ := hL
 have hLn : E.length = L.length := by rw [← hE, List.length_map]
 rw [hLn] at ho hlen h4
 have hcl : ∃ d, L[L.length - 1]? = some d ∧ d.h = y ∧ 0 < L.length := by
  rw [← hE, List.getLast?_map, List.getLast?_eq_getElem?] at hy
  obtain ⟨d, hd, rfl⟩ := Option.map_eq_some_iff.1 hy
  exact ⟨d, hd, rfl, by have := (List.getElem?_eq_some_iff.1 hd).1; omega⟩
 obtain ⟨d, hd, rfl, h0⟩ := hcl
 obtain ⟨Ad, cd, hdv⟩ := Kd.R_slice (hLed.row d (List.mem_of_getElem? hd))
 have hval : valL L (L.length : Int) = pstV d.h (.slice Ad d.C.length cd) := by
  have := valL_at hd
  rw [show ((L.length - 1 : Nat) : Int) + 1 = (L.length : Int) from by omega, hdv] at this
  exact this
 unfold pstV at hval
 have HLED := Aside0.mk (hLed.below HB1.out)
 have HHL := Aside0.mk hlen
 have HVAL := Aside0.mk hval
 have HI := Aside0.mk (show i64ok (L.length : Int) from by unfold i64ok; omega)
 have hfa : ∀ w, (Instr.field 118 (.agg #[.int .i64 d.h.f0, .string d.h.f1, .int .i64 d.h.f2, .int .i64 d.h.f3, .int .i64 d.h.f4, .string d.h.f5, .string d.h.f6, .int .i64 d.h.f7, .slice none 0 0, .slice Ad d.C.length cd]) 0).run Tryd.prog w = .ok (.agg #[.int .i64 d.h.f0, .string d.h.f1, .int .i64 d.h.f2, .int .i64 d.h.f3, .int .i64 d.h.f4, .string d.h.f5, .string d.h.f6, .int .i64 d.h.f7, .slice none 0 0]) w := fun w => by kernel_rfl
 have hfb : ∀ w, (Instr.field 29 (.agg #[.int .i64 d.h.f0, .string d.h.f1, .int .i64 d.h.f2, .int .i64 d.h.f3, .int .i64 d.h.f4, .string d.h.f5, .string d.h.f6, .int .i64 d.h.f7, .slice none 0 0]) 2).run Tryd.prog w = .ok (.int .i64 d.h.f2) w := fun w => by kernel_rfl
 have d1 : (x.f0 != (L.length : Int) + 1) = false := by simpa using ho
 have d2 : decide ((0 : Int) < (L.length : Int)) = true := decide_eq_true (by omega)
 have d2' : decide (0 < L.length) = true := decide_eq_true h0
 have d3 : decide (x.f2 < d.h.f2) = false := decide_eq_false hxy
 have d4 : decide ((4000 : Int) ≤ (L.length : Int)) = true := decide_eq_true (by omega)
 have d4' : decide (4000 ≤ L.length) = true := decide_eq_true h4
 clear hC hT hk hc hLed hE hraw hchk hLn hd hdv hval hy hxy hlen ho h4
 have hp := (blk_cell HLED.out.blk 0).trans rfl
 have hw1 : wrap64 ((L.length : Int) + 1) = (L.length : Int) + 1 := by have := HHL.out; unfold wrap64; omega
 go_enter Tryd.func20, Tryd.ntmps20
 go_upto_region 7 with (first | (go_at_call 47; refine (entry_Check.calls k x.f0 x.f1 x.f2 x.f3 x.f4 x.f5 x.f6 x.f7 A c x.f8 (-1) 0 _ (Kd.C_below HC.out HB1.out) HLC.out HK.out (HT.out.below HB1.out)).mono ?_; rintro e w2 ⟨rfl, hb⟩; have HLED2 := Aside0.mk (HLED.out.below hb); have hln := HLED2.out.len 3; have hp2 : w2.cell? ⟨p, 0, none⟩ = some (.map (some m)) := (blk_cell HLED2.out.blk 0).trans rfl; have hb2 := blk_below HBX.out hb; have a0 : w2.cell? ⟨w.heap.size, 0, none⟩ = some (.int .i64 x.f0) := (blk_cell hb2 0).trans rfl; have a2 : w2.cell? ⟨w.heap.size, 2, none⟩ = some (.int .i64 x.f2) := (blk_cell hb2 2).trans rfl; clear hb2 hp))
 have HB2 := Aside0.mk (below_then HB1.out HB1.out.size hb)
 clear hb
 have hlk : ∀ n, (Instr.lookup 119 (.map (some m)) (.int .i64 (L.length : Int)) false).run Tryd.prog (w2.drewN n) = .ok _ (w2.drewN n) := fun n => ((HLED2.out.below (pw_below_drewN (Below.refl _ w2) n)).look HI.out).trans (by rw [HVAL.out])
 go_big_quiet (fail)
 go_wp2
 go_ret
 exact ⟨rfl, pw_below_drewN HB2.out nq⟩
theorem cells_kept {w : World} {g0 c : Nat} {A : Option Addr} {x : S29} (h : w.heap[g0]? = some (.cells #[.int .i64 x.f0, .string x.f1, .int .i64 x.f2, .int .i64 x.f3, .int .i64 x.f4, .string x.f5, .string x.f6, .int .i64 x.f7, .slice A x.f8.length c] 29 (0, 0))) : ∀ w', Below w.heap.size w w' → w'.cell? ⟨g0, 0, none⟩ = some (.int .i64 x.f0) ∧ w'.cell? ⟨g0, 1, none⟩ = some (.string x.f1) ∧ w'.cell? ⟨g0, 2, none⟩ = some (.int .i64 x.f2) ∧ w'.cell? ⟨g0, 3, none⟩ = some (.int .i64 x.f3) ∧ w'.cell? ⟨g0, 4, none⟩ = some (.int .i64 x.f4) ∧ w'.cell? ⟨g0, 5, none⟩ = some (.string x.f5) ∧ w'.cell? ⟨g0, 6, none⟩ = some (.string x.f6) ∧ w'.cell? ⟨g0, 7, none⟩ = some (.int .i64 x.f7) ∧ w'.cell? ⟨g0, 8, none⟩ = some (.slice A x.f8.length c) := fun w' hb =>
 have hb2 := blk_below h hb
 ⟨(blk_cell hb2 0).trans rfl, (blk_cell hb2 1).trans rfl, (blk_cell hb2 2).trans rfl, (blk_cell hb2 3).trans rfl, (blk_cell hb2 4).trans rfl, (blk_cell hb2 5).trans rfl, (blk_cell hb2 6).trans rfl, (blk_cell hb2 7).trans rfl, (blk_cell hb2 8).trans rfl⟩
theorem raw_kept {w w3 : World} (x : S29) (A : Option Addr) (c : Nat) (hl : x.f8.length ≤ 100) (hC : Kd.C k109 w A x.f8.length x.f8) (hc : x.f8.length ≤ c) (h3 : Below w.heap.size w w3) : ∀ w', Below w3.heap.size w3 w' → Calls Tryd.prog 51 #[.agg #[.int .i64 x.f0, .string x.f1, .int .i64 x.f2, .int .i64 x.f3, .int .i64 x.f4, .string x.f5, .string x.f6, .int .i64 x.f7, .slice A x.f8.length c]] w' fun e w5 => ∃ v : Value, e = .returned v ∧ Kd.R k112 112 w5 w3.heap.size (fun _ => True) v (rawL x) ∧ Below w3.heap.size w3 w5 ∧ Below w'.heap.size w' w5 := fun w' hb => by
 obtain ⟨k, hk⟩ := (raw_ev x (by omega)).rounds
 refine (ledger_raw.calls k x.f0 x.f1 x.f2 x.f3 x.f4 x.f5 x.f6 x.f7 A c x.f8 (rawL x) w' (Kd.C_below (Kd.C_below hC h3) hb) hc hk).mono ?_
 rintro e w5 ⟨v, rfl, hr, hb5⟩
 exact ⟨v, rfl, Kd.R_lower hr hb.size, below_then hb hb.size hb5, hb5⟩
theorem row118 {w : World} {b g i : Nat} {v u : Value} {l : List S112} {cs : Array Value} (h : Kd.R k112 112 w b (fun _ => True) v l) (hg : w.heap[g]? = some (.cells cs 118 (0, 0))) : Kd.R k112 112 (w.setCell ⟨g, i, none⟩ u) b (fun _ => True) v l := by
 have h1 := Kd.R_mono (Kd.R_tight rfl h) (ok' := fun k => v.ownBlock = some k) (fun k hk => hk.symm)
 have h2 := Kd.R_step h1 (w1 := w.setCell ⟨g, i, none⟩ u) (fun k hk hlt => by
  obtain ⟨cs', hcs⟩ := Kd.R_typed h k hk
  refine Below.heap_setCell _ _ _ _ (fun e => ?_)
  have e' : k = g := e
  rw [e', hg] at hcs
  cases hcs)
 exact Kd.R_mono h2 (fun _ _ => trivial)
structure Kp118 (w3 w : World) (g : Nat) (cs : Array Value) (v : Value) (l : List S112) : Prop where
 blk : w.heap[g]? = some (.cells cs 118 (0, 0))
 row : Kd.R k112 112 w w3.heap.size (fun _ => True) v l
 bel : Below w3.heap.size w3 w
 low : w3.heap.size ≤ g
theorem Kp118.set {w3 w : World} {g : Nat} {cs cs' : Array Value} {v : Value} {l : List S112} (h : Kp118 w3 w g cs v l) (i : Nat) (u : Value) (hc : cs.setIfInBounds i u = cs') : Kp118 w3 (w.setCell ⟨g, i, none⟩ u) g cs' v l :=
 ⟨blk_put h.blk i u hc, row118 h.row h.blk, h.bel.setCell (p := ⟨g, i, none⟩) h.low u, h.low⟩
theorem kp_new {w3 w5 : World} {x : S29} {A : Option Addr} {c : Nat} {v : Value} {l : List S112} (hr : Kd.R k112 112 w5 w3.heap.size (fun _ => True) v l) (hb : Below w3.heap.size w3 w5) : Kp118 w3 (w5.alloc (.cells #[.int .i64 x.f0, .string x.f1, .int .i64 x.f2, .int .i64 x.f3, .int .i64 x.f4, .string x.f5, .string x.f6, .int .i64 x.f7, .slice A x.f8.length c, v] 118)) w5.heap.size #[.int .i64 x.f0, .string x.f1, .int .i64 x.f2, .int .i64 x.f3, .int .i64 x.f4, .string x.f5, .string x.f6, .int .i64 x.f7, .slice A x.f8.length c, v] v l :=
 ⟨blk_new _ _, Kd.R_below hr (below_alloc (Below.refl _ _) _), below_alloc hb _, hb.size⟩
theorem kp_ten {w3 w5 : World} {x : S29} {A : Option Addr} {c g : Nat} {v : Value} {l : List S112} (hz : w5.heap[g]? = some (.cells #[.int .i64 0, .string ⟨#[]⟩, .int .i64 0, .int .i64 0, .int .i64 0, .string ⟨#[]⟩, .string ⟨#[]⟩, .int .i64 0, .slice none 0 0, .slice none 0 0] 118 (0, 0))) (hr : Kd.R k112 112 w5 w3.heap.size (fun _ => True) v l) (hb : Below w3.heap.size w3 w5) (hg : w3.heap.size ≤ g) :
  Kp118 w3 ((((((((((w5.setCell ⟨g, 0, none⟩ (.int .i64 x.f0)).setCell ⟨g, 1, none⟩ (.string x.f1)).setCell ⟨g, 2, none⟩ (.int .i64 x.f2)).setCell ⟨g, 3, none⟩ (.int .i64 x.f3)).setCell ⟨g, 4, none⟩ (.int .i64 x.f4)).setCell ⟨g, 5, none⟩ (.string x.f5)).setCell ⟨g, 6, none⟩ (.string x.f6)).setCell ⟨g, 7, none⟩ (.int .i64 x.f7)).setCell ⟨g, 8, none⟩ (.slice A x.f8.length c)).setCell ⟨g, 9, none⟩ v) g #[.int .i64 x.f0, .string x.f1, .int .i64 x.f2, .int .i64 x.f3, .int .i64 x.f4, .string x.f5, .string x.f6, .int .i64 x.f7, .slice A x.f8.length c, v] v l := by
 have h0 := Kp118.mk hz hr hb hg
 have h1 := h0.set (cs' := #[(.int .i64 x.f0), (.string ⟨#[]⟩), (.int .i64 0), (.int .i64 0), (.int .i64 0), (.string ⟨#[]⟩), (.string ⟨#[]⟩), (.int .i64 0), (.slice none 0 0), (.slice none 0 0)]) 0 (.int .i64 x.f0) rfl
 have h2 := h1.set (cs' := #[(.int .i64 x.f0), (.string x.f1), (.int .i64 0), (.int .i64 0), (.int .i64 0), (.string ⟨#[]⟩), (.string ⟨#[]⟩), (.int .i64 0), (.slice none 0 0), (.slice none 0 0)]) 1 (.string x.f1) rfl
 have h3 := h2.set (cs' := #[(.int .i64 x.f0), (.string x.f1), (.int .i64 x.f2), (.int .i64 0), (.int .i64 0), (.string ⟨#[]⟩), (.string ⟨#[]⟩), (.int .i64 0), (.slice none 0 0), (.slice none 0 0)]) 2 (.int .i64 x.f2) rfl
 have h4 := h3.set (cs' := #[(.int .i64 x.f0), (.string x.f1), (.int .i64 x.f2), (.int .i64 x.f3), (.int .i64 0), (.string ⟨#[]⟩), (.string ⟨#[]⟩), (.int .i64 0), (.slice none 0 0), (.slice none 0 0)]) 3 (.int .i64 x.f3) rfl
 have h5 := h4.set (cs' := #[(.int .i64 x.f0), (.string x.f1), (.int .i64 x.f2), (.int .i64 x.f3), (.int .i64 x.f4), (.string ⟨#[]⟩), (.string ⟨#[]⟩), (.int .i64 0), (.slice none 0 0), (.slice none 0 0)]) 4 (.int .i64 x.f4) rfl
 have h6 := h5.set (cs' := #[(.int .i64 x.f0), (.string x.f1), (.int .i64 x.f2), (.int .i64 x.f3), (.int .i64 x.f4), (.string x.f5), (.string ⟨#[]⟩), (.int .i64 0), (.slice none 0 0), (.slice none 0 0)]) 5 (.string x.f5) rfl
 have h7 := h6.set (cs' := #[(.int .i64 x.f0), (.string x.f1), (.int .i64 x.f2), (.int .i64 x.f3), (.int .i64 x.f4), (.string x.f5), (.string x.f6), (.int .i64 0), (.slice none 0 0), (.slice none 0 0)]) 6 (.string x.f6) rfl
 have h8 := h7.set (cs' := #[(.int .i64 x.f0), (.string x.f1), (.int .i64 x.f2), (.int .i64 x.f3), (.int .i64 x.f4), (.string x.f5), (.string x.f6), (.int .i64 x.f7), (.slice none 0 0), (.slice none 0 0)]) 7 (.int .i64 x.f7) rfl
 have h9 := h8.set (cs' := #[(.int .i64 x.f0), (.string x.f1), (.int .i64 x.f2), (.int .i64 x.f3), (.int .i64 x.f4), (.string x.f5), (.string x.f6), (.int .i64 x.f7), (.slice A x.f8.length c), (.slice none 0 0)]) 8 (.slice A x.f8.length c) rfl
 have h10 := h9.set (cs' := #[(.int .i64 x.f0), (.string x.f1), (.int .i64 x.f2), (.int .i64 x.f3), (.int .i64 x.f4), (.string x.f5), (.string x.f6), (.int .i64 x.f7), (.slice A x.f8.length c), v]) 9 v rfl
 exact h10
set_option maxHeartbeats 4000000 in
set_option maxRecDepth 100000 in
theorem post_putn {base p m : Nat} {E : List S29} (x y : S29) (A : Option Addr) (c : Nat) (w : World) (hL : LedE w base p m E) (hC : Kd.C k109 w A x.f8.length x.f8) (hc : x.f8.length ≤ c) (hT : Tab w) (hf : FitE x) (hchk : (chkE x).2 = 0) (hlen : E.length ≤ 100000) (ho : x.f0 = (E.length : Int) + 1) (hy : E.getLast? = some y) (hxy : ¬ x.f2 < y.f2) (h4 : ¬ 4000 ≤ E.length) :
  Calls Tryd.prog 20 #[.pointer (some ⟨p, 0, none⟩), enV x A c] w fun e w' => e = .returned (.int .i64 0) ∧ LedE w' base p m (E ++ [x]) ∧ But (fun k => k = m) w w' := by
 obtain ⟨k, hk⟩ := (chk_ev x hf).rounds
 rw [(chk_two hchk).2.2.2] at hk
 have HC := Aside0.mk hC
 have HT := Aside0.mk hT
 have HK := Aside0.mk hk
 have HLC := Aside0.mk hc
 have HB1 := Aside0.mk (below_alloc (Below.refl w.heap.size w) (.cells #[.int .i64 x.f0, .string x.f1, .int .i64 x.f2, .int .i64 x.f3, .int .i64 x.f4, .string x.f5, .string x.f6, .int .i64 x.f7, .slice A x.f8.length c] 29))
 have HBX := Aside0.mk (blk_new w (.cells #[.int .i64 x.f0, .string x.f1, .int .i64 x.f2, .int .i64 x.f3, .int .i64 x.f4, .string x.f5, .string x.f6, .int .i64 x.f7, .slice A x.f8.length c] 29))
 obtain ⟨L, hLed, hE, hraw⟩ := hL
 have hLn : E.length = L.length := by rw [← hE, List.length_map]
 rw [hLn] at ho hlen h4
 have hcl : ∃ d, L[L.length - 1]? = some d ∧ d.h = y ∧ 0 < L.length := by
  rw [← hE, List.getLast?_map, List.getLast?_eq_getElem?] at hy
  obtain ⟨d, hd, rfl⟩ := Option.map_eq_some_iff.1 hy
  exact ⟨d, hd, rfl, by have := (List.getElem?_eq_some_iff.1 hd).1; omega⟩
 obtain ⟨d, hd, rfl, h0⟩ := hcl
 obtain ⟨Ad, cd, hdv⟩ := Kd.R_slice (hLed.row d (List.mem_of_getElem? hd))
 have hval : valL L (L.length : Int) = pstV d.h (.slice Ad d.C.length cd) := by
  have := valL_at hd
  rw [show ((L.length - 1 : Nat) : Int) + 1 = (L.length : Int) from by omega, hdv] at this
  exact this
 unfold pstV at hval
 have HLED := Aside0.mk (hLed.below HB1.out)
 have HHL := Aside0.mk hlen
 have HVAL := Aside0.mk hval
 have HI := Aside0.mk (show i64ok (L.length : Int) from by unfold i64ok; omega)
 have hfa : ∀ w, (Instr.field 118 (.agg #[.int .i64 d.h.f0, .string d.h.f1, .int .i64 d.h.f2, .int .i64 d.h.f3, .int .i64 d.h.f4, .string d.h.f5, .string d.h.f6, .int .i64 d.h.f7, .slice none 0 0, .slice Ad d.C.length cd]) 0).run Tryd.prog w = .ok (.agg #[.int .i64 d.h.f0, .string d.h.f1, .int .i64 d.h.f2, .int .i64 d.h.f3, .int .i64 d.h.f4, .string d.h.f5, .string d.h.f6, .int .i64 d.h.f7, .slice none 0 0]) w := fun w => by kernel_rfl
 have hfb : ∀ w, (Instr.field 29 (.agg #[.int .i64 d.h.f0, .string d.h.f1, .int .i64 d.h.f2, .int .i64 d.h.f3, .int .i64 d.h.f4, .string d.h.f5, .string d.h.f6, .int .i64 d.h.f7, .slice none 0 0]) 2).run Tryd.prog w = .ok (.int .i64 d.h.f2) w := fun w => by kernel_rfl
 have hl100 := (head_len (chk_two hchk).1).2.1
 have HO := Aside0.mk ho
 have H4 := Aside0.mk h4
 have HD := Aside0.mk hE
 have HRW := Aside0.mk hraw
 have d1 : (x.f0 != (L.length : Int) + 1) = false := by simpa using ho
 have d2 : decide ((0 : Int) < (L.length : Int)) = true := decide_eq_true (by omega)
 have d2' : decide (0 < L.length) = true := decide_eq_true h0
 have d3 : decide (x.f2 < d.h.f2) = false := decide_eq_false hxy
 have d4 : decide ((4000 : Int) ≤ (L.length : Int)) = false := decide_eq_false (by omega)
 have d4' : decide (4000 ≤ L.length) = false := decide_eq_false h4
 clear hC hT hk hc hLed hE hraw hchk hLn hd hdv hval hy hxy hlen ho h4
 have hp := (blk_cell HLED.out.blk 0).trans rfl
 have hw1 : wrap64 ((L.length : Int) + 1) = (L.length : Int) + 1 := by have := HHL.out; unfold wrap64; omega
 go_enter Tryd.func20, Tryd.ntmps20
 go_upto_region 7 with (first | (go_at_call 47; refine (entry_Check.calls k x.f0 x.f1 x.f2 x.f3 x.f4 x.f5 x.f6 x.f7 A c x.f8 (-1) 0 _ (Kd.C_below HC.out HB1.out) HLC.out HK.out (HT.out.below HB1.out)).mono ?_; rintro e w2 ⟨rfl, hb⟩; have HLED2 := Aside0.mk (HLED.out.below hb); have hln := HLED2.out.len 3; have hp2 : w2.cell? ⟨p, 0, none⟩ = some (.map (some m)) := (blk_cell HLED2.out.blk 0).trans rfl; have hb2 := blk_below HBX.out hb; have HBX2 := Aside0.mk hb2; have a0 : w2.cell? ⟨w.heap.size, 0, none⟩ = some (.int .i64 x.f0) := (blk_cell hb2 0).trans rfl; have a2 : w2.cell? ⟨w.heap.size, 2, none⟩ = some (.int .i64 x.f2) := (blk_cell hb2 2).trans rfl; clear hb2 hp))
 have HB2 := Aside0.mk (below_then HB1.out HB1.out.size hb)
 clear hb
 have hlk : ∀ n, (Instr.lookup 119 (.map (some m)) (.int .i64 (L.length : Int)) false).run Tryd.prog (w2.drewN n) = .ok _ (w2.drewN n) := fun n => ((HLED2.out.below (pw_below_drewN (Below.refl _ w2) n)).look HI.out).trans (by rw [HVAL.out])
 go_big_quiet (fail)
 go_upto_region 11 with (fail)
 refine with_world (P := fun x => Code.wp _ _ _ _ x) _ ?_
 intro w3 hw3
 have HLED3 := Aside0.mk (show Led w3 base p m L from hw3 ▸ HLED2.out.below (pw_below_drewN (Below.refl _ w2) nq))
 have HB3 := Aside0.mk (show Below w.heap.size w w3 from hw3 ▸ pw_below_drewN HB2.out nq)
 obtain ⟨g0, hg0⟩ : ∃ g0, w.heap.size = g0 := ⟨_, rfl⟩
 have HG0 := Aside0.mk hg0
 have hbx3 : w3.heap[g0]? = some (.cells #[.int .i64 x.f0, .string x.f1, .int .i64 x.f2, .int .i64 x.f3, .int .i64 x.f4, .string x.f5, .string x.f6, .int .i64 x.f7, .slice A x.f8.length c] 29 (0, 0)) := by
  rw [hw3, ← hg0]
  exact blk_drewN HBX2.out nq
 try rw [hg0]
 have HBX3 := Aside0.mk hbx3
 have HQS := Aside0.mk (cells_kept hbx3)
 obtain ⟨r0, r1, r2, r3, r4, r5, r6, r7, r8⟩ := HQS.out w3 (Below.refl _ _)
 have HRC := Aside0.mk (raw_kept (w := w) x A c hl100 HC.out HLC.out HB3.out)
 clear hw3 hg0 hbx3 a0 a2 hlk hp2
 obtain ⟨q0, q1, q2, q3, q4, q5, q6, q7, q8⟩ := HQS.out ((w3.alloc (.cells #[.int .i64 0, .string ⟨#[]⟩, .int .i64 0, .int .i64 0, .int .i64 0, .string ⟨#[]⟩, .string ⟨#[]⟩, .int .i64 0, .slice none 0 0, .slice none 0 0] 118)).drew) (below_drew (below_alloc (Below.refl _ _) _))
 go_cut [8, 48, 49, 50, 51] (fun v8 _ _ _ _ wc => ∃ (g : Nat) (A5 : Option Addr) (c5 : Nat), v8 = .pointer (some ⟨g, 0, none⟩) ∧ Aside0 (Kp118 w3 wc g #[.int .i64 x.f0, .string x.f1, .int .i64 x.f2, .int .i64 x.f3, .int .i64 x.f4, .string x.f5, .string x.f6, .int .i64 x.f7, .slice A x.f8.length c, .slice A5 (rawL x).length c5] (.slice A5 (rawL x).length c5) (rawL x)))
 case first =>
  go_region_law (first | (go_simp; go_at_call 51; (with_reducible refine (HRC.out _ ?hbl).mono ?_); (case hbl => repeat (first | (with_reducible exact Below.refl _ _) | apply below_drew | refine below_alloc ?_ _)); rintro e_ w5 ⟨v5, rfl, hr5, hb5, hb6⟩; obtain ⟨A5, c5, rfl⟩ := Kd.R_slice hr5; have HR5 := Aside0.mk hr5; have HB5 := Aside0.mk hb5; have HB6 := Aside0.mk hb6; obtain ⟨s0, s1, s2, s3, s4, s5, s6, s7, s8⟩ := HQS.out w5 hb5; obtain ⟨t0, t1, t2, t3, t4, t5, t6, t7, t8⟩ := HQS.out (w5.alloc (.cells #[.int .i64 0, .string ⟨#[]⟩, .int .i64 0, .int .i64 0, .int .i64 0, .string ⟨#[]⟩, .string ⟨#[]⟩, .int .i64 0, .slice none 0 0, .slice none 0 0] 118)) (below_alloc hb5 _); try (have hbz : w5.heap[w3.heap.size]? = some (.cells #[.int .i64 0, .string ⟨#[]⟩, .int .i64 0, .int .i64 0, .int .i64 0, .string ⟨#[]⟩, .string ⟨#[]⟩, .int .i64 0, .slice none 0 0, .slice none 0 0] 118 (0, 0)) := blk_below (by first | exact blk_new _ _ | exact blk_drew (blk_new _ _)) hb6; have z0 : w5.cell? ⟨w3.heap.size, 0, none⟩ = some (.int .i64 0) := (blk_cell hbz 0).trans rfl; have f0 := blk_frozen hbz 0; have z1 : w5.cell? ⟨w3.heap.size, 1, none⟩ = some (.string ⟨#[]⟩) := (blk_cell hbz 1).trans rfl; have f1 := blk_frozen hbz 1; have z2 : w5.cell? ⟨w3.heap.size, 2, none⟩ = some (.int .i64 0) := (blk_cell hbz 2).trans rfl; have f2 := blk_frozen hbz 2; have z3 : w5.cell? ⟨w3.heap.size, 3, none⟩ = some (.int .i64 0) := (blk_cell hbz 3).trans rfl; have f3 := blk_frozen hbz 3; have z4 : w5.cell? ⟨w3.heap.size, 4, none⟩ = some (.int .i64 0) := (blk_cell hbz 4).trans rfl; have f4 := blk_frozen hbz 4; have z5 : w5.cell? ⟨w3.heap.size, 5, none⟩ = some (.string ⟨#[]⟩) := (blk_cell hbz 5).trans rfl; have f5 := blk_frozen hbz 5; have z6 : w5.cell? ⟨w3.heap.size, 6, none⟩ = some (.string ⟨#[]⟩) := (blk_cell hbz 6).trans rfl; have f6 := blk_frozen hbz 6; have z7 : w5.cell? ⟨w3.heap.size, 7, none⟩ = some (.int .i64 0) := (blk_cell hbz 7).trans rfl; have f7 := blk_frozen hbz 7; have z8 : w5.cell? ⟨w3.heap.size, 8, none⟩ = some (.slice none 0 0) := (blk_cell hbz 8).trans rfl; have f8 := blk_frozen hbz 8; have z9 : w5.cell? ⟨w3.heap.size, 9, none⟩ = some (.slice none 0 0) := (blk_cell hbz 9).trans rfl; have f9 := blk_frozen hbz 9; have HBZ := Aside0.mk hbz; clear hbz); clear hr5 hb5 hb6))
  all_goals
   go_wp2_with fail
   go_meet
  all_goals
   case rel =>
    first
    | (with_reducible exact ⟨w3.heap.size, A5, c5, rfl, ⟨kp_ten HBZ.out HR5.out HB5.out (Nat.le_refl _)⟩⟩)
    | exact ⟨w5.heap.size, A5, c5, rfl, ⟨kp_new HR5.out HB5.out⟩⟩
 case rest =>
  obtain ⟨g, A5, c5, rfl, HKP⟩ := hcut
  have c8 : wc.cell? ⟨g, 8, none⟩ = some (.slice A x.f8.length c) := (blk_cell HKP.out.blk 8).trans rfl
  have f8 := blk_frozen HKP.out.blk 8
  go_upto_region 13 with (fail)
  refine with_world (P := fun x => Code.wp _ _ _ _ x) _ ?_
  intro w6 hw6
  have HK6 := Aside0.mk (show Kp118 w3 w6 g #[.int .i64 x.f0, .string x.f1, .int .i64 x.f2, .int .i64 x.f3, .int .i64 x.f4, .string x.f5, .string x.f6, .int .i64 x.f7, .slice none 0 0, .slice A5 (rawL x).length c5] (.slice A5 (rawL x).length c5) (rawL x) from hw6 ▸ HKP.out.set 8 _ rfl)
  clear hw6 HKP c8 f8
  have hrow : Kd.R k112 112 w6 base (fun _ => True) (.slice A5 (rawL x).length c5) (rawL x) := Kd.R_lower HK6.out.row (by have := HLED3.out.ltm; have := HLED3.out.lowm; omega)
  have HLED6 := Aside0.mk ((HLED3.out.below HK6.out.bel).below (below_drew (Below.refl _ w6)))
  obtain ⟨w7, hup, hLed7, hg7⟩ := HLED6.out.put (c := ⟨x, rawL x, .slice A5 (rawL x).length c5⟩) (by have := HHL.out; omega) (Kd.R_below hrow (below_drew (Below.refl _ w6)))
  have HL7 := Aside0.mk hLed7
  have HG7 := Aside0.mk hg7
  clear hLed7 hg7 hrow
  unfold pstV at hup
  rw [← HO.out] at hup
  obtain ⟨q0, q1, q2, q3, q4, q5, q6, q7, q8⟩ := HQS.out w6 HK6.out.bel
  clear q1 q2 q3 q4 q5 q6 q7 q8
  have e0 : w6.cell? ⟨g, 0, none⟩ = some (.int .i64 x.f0) := (blk_cell HK6.out.blk 0).trans rfl
  have e1 : w6.cell? ⟨g, 1, none⟩ = some (.string x.f1) := (blk_cell HK6.out.blk 1).trans rfl
  have e2 : w6.cell? ⟨g, 2, none⟩ = some (.int .i64 x.f2) := (blk_cell HK6.out.blk 2).trans rfl
  have e3 : w6.cell? ⟨g, 3, none⟩ = some (.int .i64 x.f3) := (blk_cell HK6.out.blk 3).trans rfl
  have e4 : w6.cell? ⟨g, 4, none⟩ = some (.int .i64 x.f4) := (blk_cell HK6.out.blk 4).trans rfl
  have e5 : w6.cell? ⟨g, 5, none⟩ = some (.string x.f5) := (blk_cell HK6.out.blk 5).trans rfl
  have e6 : w6.cell? ⟨g, 6, none⟩ = some (.string x.f6) := (blk_cell HK6.out.blk 6).trans rfl
  have e7 : w6.cell? ⟨g, 7, none⟩ = some (.int .i64 x.f7) := (blk_cell HK6.out.blk 7).trans rfl
  have e8 : w6.cell? ⟨g, 8, none⟩ = some (.slice none 0 0) := (blk_cell HK6.out.blk 8).trans rfl
  have e9 : w6.cell? ⟨g, 9, none⟩ = some (.slice A5 (rawL x).length c5) := (blk_cell HK6.out.blk 9).trans rfl
  have ep : w6.cell? ⟨p, 0, none⟩ = some (.map (some m)) := (blk_cell HLED6.out.blk 0).trans rfl
  go_still_tail 7, (by kernel_rfl)
  change wpList _ _ _ _ _ w6.drew
  go_wp2
  go_ret
  refine ⟨rfl, ⟨_, HL7.out, ?_, fun d' hd' => ?_⟩, ?_⟩
  ·rw [List.map_append, HD.out]
   rfl
  ·rcases List.mem_append.1 hd' with hd' | hd'
   ·exact HRW.out d' hd'
   ·rw [List.mem_singleton] at hd'
    subst hd'
    rfl
  ·have hb6 : Below w.heap.size w w6.drew := below_drew (below_then HB3.out HB3.out.size HK6.out.bel)
   exact (But.of_below hb6 _).trans (But.of_grown HG7.out (fun k hk => (Option.some.inj hk).symm))
end Go.Proofs.YtppcjoaghlecmaaDoor.P
