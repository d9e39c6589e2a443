/- Texts of mine and of the print, joined: HandLve, Px22, Px23, SpecLv, HandLiv, Px5, SpecLa, HandPosts, Px4, Px25, SpecSm, HandShs, HandLedgerNil, HandLedgerDivides, Px48, HandLedgerCells, SayLedgerCells, PureLedgerCells. -/
import Derived.Test.YtppcjoaghlecmaaDoorCe
import Derived.Test.YtppcjoaghlecmaaDoorCa
import Derived.Test.YtppcjoaghlecmaaDoorCc
import Derived.Test.YtppcjoaghlecmaaDoorCb
import Derived.Test.YtppcjoaghlecmaaDoorCd
import Derived.Deep.RegionHeld3
namespace Go.Proofs.YtppcjoaghlecmaaDoor.P
open Go.RowKit Go.Sort Go.Proofs.YtppcjoaghlecmaaDoorW.PrintWords Go.Proofs.YtppcjoaghlecmaaDoorW.PrintLast Go.Proofs.YtppcjoaghlecmaaDoorW.PrintMore Go.Maps Go.ChangeShapes Go.WideShapes Go.WideMaps Go.Shelf
set_option linter.unusedVariables false
set_option linter.unusedSimpArgs false
def qmi (E : List S29) : Prop := ∀ x ∈ E, (chkE x).2 = 0
theorem qmi.nil : qmi [] := fun x hx => by cases hx
theorem qmi.post {E : List S29} (h : qmi E) (x : S29) : qmi (qjb E x) := by
 unfold qjb
 by_cases hc : postC E x = 0
 rotate_left
 ·rw [if_neg hc]
  exact h
 rw [if_pos hc]
 intro y hy
 rcases List.mem_append.1 hy with hy | hy
 ·exact h y hy
 ·rw [List.mem_singleton] at hy
  subst hy
  unfold postC at hc
  by_cases h0 : (chkE y).2 = 0
  ·exact h0
  rw [if_pos h0] at hc
  exact hc
def selC (E : List S29) (q : Qy) : List S112 := ((E.filter (selB q)).map rawL).flatten
def qmv (E : List S29) (q : Qy) : List S112 × Int := ofK (selC E q)
def findE (E : List S29) (q : Qy) (key : S40) : List Int := ((E.filter (selB q)).filter (fun x => (rawL x).any (fun y => qhl key y.f0))).map S29.f0
theorem raw_len (x : S29) : (rawL x).length = x.f8.length := by unfold rawL; rw [List.length_map]
theorem qhd {x : S29} (h : (chkE x).2 = 0) : rawL x ≠ [] ∧ (rawL x).length ≤ 100 ∧ ∀ c ∈ rawL x, qdf c.f1 ∧ qdf c.f2 := by
 obtain ⟨h1, h2, _⟩ := qhh h
 have hl := qhx h1
 have hr := raw_len x
 refine ⟨fun e => ?_, by omega, fun c hc => ?_⟩
 ·rw [e] at hr
  simp at hr
  omega
 ·unfold rawL at hc
  obtain ⟨y, hy, rfl⟩ := List.mem_map.1 hc
  have := line_bnd (h2 y hy)
  unfold qdf
  show (_ ∧ y.f2 ≤ _) ∧ _ ∧ y.f3 ≤ _
  constructor <;> constructor <;> (try show _ ≤ y.f2) <;> (try show _ ≤ y.f3) <;> omega
theorem flat_len {α β : Type} (f : α → List β) (n : Nat) : ∀ (l : List α), (∀ x ∈ l, (f x).length ≤ n) → ((l.map f).flatten).length ≤ l.length * n
 | [], _ => by simp
 | x :: r, h => by
  have h1 := h x (by simp)
  have h2 := flat_len f n r (fun y hy => h y (by simp [hy]))
  simp only [List.map_cons, List.flatten_cons, List.length_append, List.length_cons, Nat.succ_mul]
  omega
theorem okS_sel {E : List S29} (hg : qmi E) (hl : E.length ≤ 1000) (q : Qy) : OkS (selC E q) := by
 have hf : (E.filter (selB q)).length ≤ E.length := List.length_filter_le _ _
 refine ⟨?_, fun c hc => ?_⟩
 ·have := flat_len rawL 100 (E.filter (selB q)) (fun x hx => (qhd (hg x (List.mem_filter.1 hx).1)).2.1)
  unfold selC
  omega
 ·unfold selC at hc
  obtain ⟨l, hl2, hc⟩ := List.mem_flatten.1 hc
  obtain ⟨x, hx, rfl⟩ := List.mem_map.1 hl2
  exact (qhd (hg x (List.mem_filter.1 hx).1)).2.2 c hc
theorem qmw {L : List Pst} (h : ∀ c ∈ L, c.C = rawL c.h) (q : Qy) : ((L.filter (qec q)).map Pst.C).flatten = selC (L.map Pst.h) q := by
 unfold selC
 rw [List.filter_map, List.map_map]
 congr 1
 refine List.map_congr_left (fun c hc => ?_)
 exact h c (List.mem_filter.1 hc).1
theorem find_bridge {L : List Pst} (h : ∀ c ∈ L, c.C = rawL c.h) (q : Qy) (key : S40) : findK L q key = findE (L.map Pst.h) q key := by
 unfold findK findE
 rw [List.filter_map, List.filter_map, List.map_map]
 have : List.filter (hasM key) (L.filter (qec q)) = List.filter ((fun x => (rawL x).any (fun y => qhl key y.f0)) ∘ Pst.h) (L.filter (selB q ∘ Pst.h)) := by
  refine List.filter_congr (fun c hc => ?_)
  unfold hasM
  rw [h c (List.mem_filter.1 hc).1]
  rfl
 rw [this]
 rfl
structure qgq (w0 w : World) (p m : Nat) (E : List S29) : Prop where
 led : LedE w w0.heap.size p m E
 bel : Below w0.heap.size w0 w
theorem qgq.below {w0 w w' : World} {p m : Nat} {E : List S29} (h : qgq w0 w p m E) (hb : Below w.heap.size w w') : qgq w0 w' p m E := ⟨h.led.below hb, qch h.bel h.bel.size hb⟩
theorem qgq.made (w : World) : Calls Tryd.prog 22 #[] w fun e w' => ∃ p m, e = .returned (.pointer (some ⟨p, 0, none⟩)) ∧ qgq w w' p m [] := by
 refine (lnew_calls w).mono ?_
 rintro e w' ⟨p, m, rfl, h1, h2⟩
 exact ⟨p, m, rfl, ⟨[], h1, rfl, fun c hc => by cases hc⟩, h2⟩
theorem qgq.tab {w0 w : World} {p m : Nat} {E : List S29} (h : qgq w0 w p m E) (hT : Tab w0) : Tab w := hT.below h.bel
theorem qgq.post {w0 w : World} {p m : Nat} {E : List S29} (h : qgq w0 w p m E) (hT : Tab w0) (x : S29) (A : Option Addr) (c : Nat) (hC : Kd.C k109 w A x.f8.length x.f8) (hc : x.f8.length ≤ c) (hf : FitE x) (hlen : E.length ≤ 100000) :
  Calls Tryd.prog 20 #[.pointer (some ⟨p, 0, none⟩), enV x A c] w fun e w' => e = .returned (.int .i64 (postC E x)) ∧ qgq w0 w' p m (qjb E x) ∧ But (fun k => k = m) w w' := by
 refine (post_calls x A c w h.led hC hc (h.tab hT) hf hlen).mono ?_
 rintro e w' ⟨he, h1, h2⟩
 exact ⟨he, ⟨h1, But.below h.bel h2 h.bel.size (fun k hk => by have := h.led.lowm; omega)⟩, h2⟩
theorem qgq.sheet {w0 w : World} {p m : Nat} {E : List S29} (h : qgq w0 w p m E) (hg : qmi E) (hl : E.length ≤ 1000) (q : Qy) :
  Calls Tryd.prog 19 #[.pointer (some ⟨p, 0, none⟩), qyV q] w fun e w' => ∃ v, e = .returned (.tuple #[v, .int .i64 (qmv E q).2]) ∧ Kd.R k112 112 w' w.heap.size (fun _ => True) v (qmv E q).1 ∧ Below w.heap.size w w' ∧ qgq w0 w' p m E := by
 obtain ⟨L, hL, rfl, hC⟩ := h.led
 have hgd : ∀ c ∈ L, (chkE c.h).2 = 0 := fun c hc => hg c.h (List.mem_map.2 ⟨c, hc, rfl⟩)
 rw [List.length_map] at hl
 refine (callsIn_wide.1 (lsheet_in (some ⟨p, 0, none⟩) q _ L w (.inr ⟨p, m, rfl, hL⟩) hl (fun c hc => by rw [hC c hc]; have := (qhd (hgd c hc)).2.1; omega) (fun c hc => by rw [hC c hc]; exact (qhd (hgd c hc)).1) _ rfl (by rw [qmw hC]; exact okS_sel hg (by rw [List.length_map]; exact hl) q))).mono ?_
 rw [qmw hC]
 rintro e w' ⟨v, he, hr, hb⟩
 exact ⟨v, he, hr, hb, h.below hb⟩
theorem qgq.find {w0 w : World} {p m : Nat} {E : List S29} (h : qgq w0 w p m E) (hg : qmi E) (hl : E.length ≤ 1000) (q : Qy) (key : S40) :
  Calls Tryd.prog 24 #[.pointer (some ⟨p, 0, none⟩), qyV q, keV key] w fun e w' => ∃ v, e = .returned v ∧ Kd.R (Kd.int .i64) 3 w' w.heap.size (fun _ => True) v (findE E q key) ∧ Below w.heap.size w w' ∧ qgq w0 w' p m E := by
 obtain ⟨L, hL, rfl, hC⟩ := h.led
 have hgd : ∀ c ∈ L, (chkE c.h).2 = 0 := fun c hc => hg c.h (List.mem_map.2 ⟨c, hc, rfl⟩)
 rw [List.length_map] at hl
 refine (callsIn_wide.1 (lfind_in (some ⟨p, 0, none⟩) q key _ L w (.inr ⟨p, m, rfl, hL⟩) hl (fun c hc => by rw [hC c hc]; have := (qhd (hgd c hc)).2.1; omega) (fun c hc => by rw [hC c hc]; exact (qhd (hgd c hc)).1))).mono ?_
 rw [find_bridge hC]
 rintro e w' ⟨v, he, hr, hb⟩
 exact ⟨v, he, hr, hb, h.below hb⟩
theorem qgq.len {w0 w : World} {p m : Nat} {E : List S29} (h : qgq w0 w p m E) : Calls Tryd.prog 23 #[.pointer (some ⟨p, 0, none⟩)] w fun e w' => e = .returned (.int .i64 E.length) ∧ Below w.heap.size w w' := by
 obtain ⟨L, hL, rfl, hC⟩ := h.led
 rw [List.length_map]
 exact llen_calls hL
end Go.Proofs.YtppcjoaghlecmaaDoor.P
namespace Go.Proofs.YtppcjoaghlecmaaDoor.P
open Go.RowKit Go.Proofs.YtppcjoaghlecmaaDoorW.PrintWords Go.Proofs.YtppcjoaghlecmaaDoorW.PrintLast Go.Proofs.YtppcjoaghlecmaaDoorW.PrintMore
attribute [local go_sem] qfa qey qft qfs qej qei qez qex
set_option linter.unusedVariables false
set_option linter.unusedSimpArgs false
def qef.f (a0 : Int) (a1 : Int) (a2 : Int) (a3 : ByteArray) (a4 : Int) : Option (Int × ByteArray × Int × Int × Int × ByteArray × ByteArray × Int × (List (S109))) := some (a0, (⟨#[97]⟩ : ByteArray), a1, a2, 1, (⟨#[]⟩ : ByteArray), (⟨#[117]⟩ : ByteArray), 0, (([(⟨a3, (⟨#[69, 85, 82]⟩ : ByteArray), a4, a4, (⟨#[]⟩ : ByteArray), (⟨#[]⟩ : ByteArray), ([] : List (S213))⟩ : S109), (⟨(⟨#[52, 48]⟩ : ByteArray), (⟨#[69, 85, 82]⟩ : ByteArray), wrap64 (-a4), wrap64 (-a4), (⟨#[]⟩ : ByteArray), (⟨#[]⟩ : ByteArray), ([] : List (S213))⟩ : S109)] : List (S109))))
set_option maxHeartbeats 8000000 in
set_option maxRecDepth 100000 in
theorem qef.calls (a0 : Int) (a1 : Int) (a2 : Int) (a3 : ByteArray) (a4 : Int) (r1 : Int) (r2 : ByteArray) (r3 : Int) (r4 : Int) (r5 : Int) (r6 : ByteArray) (r7 : ByteArray) (r8 : Int) (r9 : List (S109)) (w : World) (h : qef.f a0 a1 a2 a3 a4 = some (r1, r2, r3, r4, r5, r6, r7, r8, r9)) :
  Calls Tryd.prog 48 #[.int .i64 a0, .int .i64 a1, .int .i64 a2, .string a3, .int .i64 a4] w fun e w' => ∃ v8_ : Value, e = .returned (.agg #[.int .i64 r1, .string r2, .int .i64 r3, .int .i64 r4, .int .i64 r5, .string r6, .string r7, .int .i64 r8, v8_]) ∧ Kd.S k109 109 w' w.heap.size (fun _ => True) v8_ r9 ∧ Below w.heap.size w w' := by
 have hu29 := Tryd.underlying29
 have hu109 := Tryd.underlying109
 have HB := qd.mk (Below.refl w.heap.size w)
 have H : (some (a0, (⟨#[97]⟩ : ByteArray), a1, a2, 1, (⟨#[]⟩ : ByteArray), (⟨#[117]⟩ : ByteArray), 0, (([(⟨a3, (⟨#[69, 85, 82]⟩ : ByteArray), a4, a4, (⟨#[]⟩ : ByteArray), (⟨#[]⟩ : ByteArray), ([] : List (S213))⟩ : S109), (⟨(⟨#[52, 48]⟩ : ByteArray), (⟨#[69, 85, 82]⟩ : ByteArray), wrap64 (-a4), wrap64 (-a4), (⟨#[]⟩ : ByteArray), (⟨#[]⟩ : ByteArray), ([] : List (S213))⟩ : S109)] : List (S109))))) = some (r1, r2, r3, r4, r5, r6, r7, r8, r9) := h
 clear h
 obtain ⟨y161, hy161⟩ : ∃ y_ : List (S109), y_ = (([(⟨a3, (⟨#[69, 85, 82]⟩ : ByteArray), a4, a4, (⟨#[]⟩ : ByteArray), (⟨#[]⟩ : ByteArray), ([] : List (S213))⟩ : S109), (⟨(⟨#[52, 48]⟩ : ByteArray), (⟨#[69, 85, 82]⟩ : ByteArray), wrap64 (-a4), wrap64 (-a4), (⟨#[]⟩ : ByteArray), (⟨#[]⟩ : ByteArray), ([] : List (S213))⟩ : S109)] : List (S109))) := ⟨_, rfl⟩
 replace H : (some (a0, (⟨#[97]⟩ : ByteArray), a1, a2, 1, (⟨#[]⟩ : ByteArray), (⟨#[117]⟩ : ByteArray), 0, y161)) = some (r1, r2, r3, r4, r5, r6, r7, r8, r9) := by first | (rw [hy161]; with_reducible exact H) | (have H2_ := (Option.bind_some _ _).symm.trans H; rw [hy161]; with_reducible exact H2_) | (have H2_ := (Option.bind_some _ _).symm.trans H; with_reducible exact H2_) | with_reducible exact H | (rw [hy161]; exact H) | exact H
 have Ny161 := qd.mk hy161
 clear hy161
 simp only [Option.some.injEq, Prod.mk.injEq] at H
 obtain ⟨rfl, rfl, rfl, rfl, rfl, rfl, rfl, rfl, rfl⟩ := H
 go_enter Tryd.func48, Tryd.ntmps48
 go_wp2_with (first | ((with_reducible refine qce (N := 10) rfl ?_); refine qcc ?hg (N := 10) ?hd (cs := #[.int .i64 0, .string (⟨#[]⟩ : ByteArray), .int .i64 0, .int .i64 0, .int .i64 0, .string (⟨#[]⟩ : ByteArray), .string (⟨#[]⟩ : ByteArray), .int .i64 0, .slice none 0 0]) (t := 29) ?hr ?_; (case hd => rfl); (case hg => rfl); (case hr => first | (go_simp; done) | (go_simp; rfl)); intro gb160 hg w6 hbox hb; have n0_ := qd.mk (qbd (bw_) hb); have n1_ := qd.mk (hbox); have n2_ := qd.mk (gw_ (w := w) hg); have n3_ := qd.mk (gw_ (w := w) hg); clear HB; have HB := n0_; have BK160 := n1_; have GW160 := n2_; have GE160 := n3_; clear n0_ n1_ n2_ n3_; clear hb hbox hg) | ((with_reducible refine qce (N := 23) rfl ?_); refine Kd.S_lit k109 _ 109 ?hg (N := 23) ?hd (xs := ([(⟨a3, (⟨#[69, 85, 82]⟩ : ByteArray), a4, a4, (⟨#[]⟩ : ByteArray), (⟨#[]⟩ : ByteArray), ([] : List (S213))⟩ : S109), (⟨(⟨#[52, 48]⟩ : ByteArray), (⟨#[69, 85, 82]⟩ : ByteArray), wrap64 (-a4), wrap64 (-a4), (⟨#[]⟩ : ByteArray), (⟨#[]⟩ : ByteArray), ([] : List (S213))⟩ : S109)] : List (S109))) (inner := [.string a3, .string (⟨#[69, 85, 82]⟩ : ByteArray), .int .i64 a4, .int .i64 a4, .string (⟨#[]⟩ : ByteArray), .string (⟨#[]⟩ : ByteArray), .slice none 0 0, .string (⟨#[52, 48]⟩ : ByteArray), .string (⟨#[69, 85, 82]⟩ : ByteArray), .int .i64 (wrap64 (-a4)), .int .i64 (wrap64 (-a4)), .string (⟨#[]⟩ : ByteArray), .string (⟨#[]⟩ : ByteArray), .slice none 0 0]) (ok := fun _ => True) (okp := fun _ => True) ?hr ?hp (fun _ hk => hk) trivial (Below.refl _ _) (Nat.le_refl _) (by simp) ?_; (case hd => rfl); (case hg => rfl); (case hr => first | (go_simp; done) | (go_simp; rfl)); (case hp => exact (Reps.c7 (show Kd.M k109 _ _ _ (⟨a3, (⟨#[69, 85, 82]⟩ : ByteArray), a4, a4, (⟨#[]⟩ : ByteArray), (⟨#[]⟩ : ByteArray), ([] : List (S213))⟩ : S109) [.string a3, .string (⟨#[69, 85, 82]⟩ : ByteArray), .int .i64 a4, .int .i64 a4, .string (⟨#[]⟩ : ByteArray), .string (⟨#[]⟩ : ByteArray), .slice none 0 0] from (k109_mkM _ _ _ (⟨a3, (⟨#[69, 85, 82]⟩ : ByteArray), a4, a4, (⟨#[]⟩ : ByteArray), (⟨#[]⟩ : ByteArray), ([] : List (S213))⟩ : S109) (Kd.qia _ _ _ _ _))) (Reps.c7 (show Kd.M k109 _ _ _ (⟨(⟨#[52, 48]⟩ : ByteArray), (⟨#[69, 85, 82]⟩ : ByteArray), wrap64 (-a4), wrap64 (-a4), (⟨#[]⟩ : ByteArray), (⟨#[]⟩ : ByteArray), ([] : List (S213))⟩ : S109) [.string (⟨#[52, 48]⟩ : ByteArray), .string (⟨#[69, 85, 82]⟩ : ByteArray), .int .i64 (wrap64 (-a4)), .int .i64 (wrap64 (-a4)), .string (⟨#[]⟩ : ByteArray), .string (⟨#[]⟩ : ByteArray), .slice none 0 0] from (k109_mkM _ _ _ (⟨(⟨#[52, 48]⟩ : ByteArray), (⟨#[69, 85, 82]⟩ : ByteArray), wrap64 (-a4), wrap64 (-a4), (⟨#[]⟩ : ByteArray), (⟨#[]⟩ : ByteArray), ([] : List (S213))⟩ : S109) (Kd.qia _ _ _ _ _))) (Reps.none _ _)))); intro v162 w7 ho8 hb hg_ hnew_; clear hg_ hnew_; (first | rw [← Ny161.out] at ho8 | (simp only [Int.reduceToNat] at ho8; rw [← Ny161.out] at ho8)); have n0_ := qd.mk (Kd.S_lower ho8 (qcn (bwx_))); have n1_ := qd.mk (bb_ BK160 hb); have n2_ := qd.mk (qbd (bwx_) hb); clear BK160; clear HB; have HO163 := n0_; have BK160 := n1_; have HB := n2_; clear n0_ n1_ n2_; clear hb ho8; obtain ⟨Ao9, co9, eo9⟩ := Kd.S_slice HO163.out; subst eo9; obtain ⟨cz10_0, cz10_1, cz10_2, cz10_3, cz10_4, cz10_5, cz10_6, cz10_7, cz10_8⟩ := bc9_ (w := w7) BK160.out; obtain ⟨fz10_0, fz10_1, fz10_2, fz10_3, fz10_4, fz10_5, fz10_6, fz10_7, fz10_8⟩ := bf9_ BK160.out))
 refine bodyPost_ret (results_cell_row rfl _ _ gb160 29 #[.int .i64 a0, .string (⟨#[97]⟩ : ByteArray), .int .i64 a1, .int .i64 a2, .int .i64 1, .string (⟨#[]⟩ : ByteArray), .string (⟨#[117]⟩ : ByteArray), .int .i64 0, .slice Ao9 y161.length co9] (0, 0) _ rfl (by (with_reducible repeat (first | refine qw ?_ _ | refine qz ?_ | refine qm ?_ _)); refine qck (cs := #[.int .i64 a0, .string (⟨#[97]⟩ : ByteArray), .int .i64 a1, .int .i64 a2, .int .i64 1, .string (⟨#[]⟩ : ByteArray), .string (⟨#[117]⟩ : ByteArray), .int .i64 0, .slice none 0 0]) ?_ 8 _ rfl; (with_reducible repeat (first | refine qw ?_ _ | refine qz ?_ | refine qm ?_ _)); refine qck (cs := #[.int .i64 a0, .string (⟨#[97]⟩ : ByteArray), .int .i64 a1, .int .i64 a2, .int .i64 1, .string (⟨#[]⟩ : ByteArray), .string (⟨#[117]⟩ : ByteArray), .int .i64 0, .slice none 0 0]) ?_ 7 _ rfl; (with_reducible repeat (first | refine qw ?_ _ | refine qz ?_ | refine qm ?_ _)); refine qck (cs := #[.int .i64 a0, .string (⟨#[97]⟩ : ByteArray), .int .i64 a1, .int .i64 a2, .int .i64 1, .string (⟨#[]⟩ : ByteArray), .string (⟨#[]⟩ : ByteArray), .int .i64 0, .slice none 0 0]) ?_ 6 _ rfl; (with_reducible repeat (first | refine qw ?_ _ | refine qz ?_ | refine qm ?_ _)); refine qck (cs := #[.int .i64 a0, .string (⟨#[97]⟩ : ByteArray), .int .i64 a1, .int .i64 a2, .int .i64 1, .string (⟨#[]⟩ : ByteArray), .string (⟨#[]⟩ : ByteArray), .int .i64 0, .slice none 0 0]) ?_ 5 _ rfl; (with_reducible repeat (first | refine qw ?_ _ | refine qz ?_ | refine qm ?_ _)); refine qck (cs := #[.int .i64 a0, .string (⟨#[97]⟩ : ByteArray), .int .i64 a1, .int .i64 a2, .int .i64 0, .string (⟨#[]⟩ : ByteArray), .string (⟨#[]⟩ : ByteArray), .int .i64 0, .slice none 0 0]) ?_ 4 _ rfl; (with_reducible repeat (first | refine qw ?_ _ | refine qz ?_ | refine qm ?_ _)); refine qck (cs := #[.int .i64 a0, .string (⟨#[97]⟩ : ByteArray), .int .i64 a1, .int .i64 0, .int .i64 0, .string (⟨#[]⟩ : ByteArray), .string (⟨#[]⟩ : ByteArray), .int .i64 0, .slice none 0 0]) ?_ 3 _ rfl; (with_reducible repeat (first | refine qw ?_ _ | refine qz ?_ | refine qm ?_ _)); refine qck (cs := #[.int .i64 a0, .string (⟨#[97]⟩ : ByteArray), .int .i64 0, .int .i64 0, .int .i64 0, .string (⟨#[]⟩ : ByteArray), .string (⟨#[]⟩ : ByteArray), .int .i64 0, .slice none 0 0]) ?_ 2 _ rfl; (with_reducible repeat (first | refine qw ?_ _ | refine qz ?_ | refine qm ?_ _)); refine qck (cs := #[.int .i64 a0, .string (⟨#[]⟩ : ByteArray), .int .i64 0, .int .i64 0, .int .i64 0, .string (⟨#[]⟩ : ByteArray), .string (⟨#[]⟩ : ByteArray), .int .i64 0, .slice none 0 0]) ?_ 1 _ rfl; (with_reducible repeat (first | refine qw ?_ _ | refine qz ?_ | refine qm ?_ _)); refine qck (cs := #[.int .i64 0, .string (⟨#[]⟩ : ByteArray), .int .i64 0, .int .i64 0, .int .i64 0, .string (⟨#[]⟩ : ByteArray), .string (⟨#[]⟩ : ByteArray), .int .i64 0, .slice none 0 0]) ?_ 0 _ rfl; (with_reducible repeat (first | refine qw ?_ _ | refine qz ?_ | refine qm ?_ _)); exact BK160.out) Tryd.underlying29 rfl (by kernel_rfl)) rfl ?_
 exact ⟨_, ew_, by (with_reducible repeat (first | apply Kd.S_alloc | apply Kd.S_drewN | apply Kd.S_drew)); exact Kd.S_mono (Kd.S_far (p := ⟨gb160, 8, none⟩) (Kd.S_far (p := ⟨gb160, 7, none⟩) (Kd.S_far (p := ⟨gb160, 6, none⟩) (Kd.S_far (p := ⟨gb160, 5, none⟩) (Kd.S_far (p := ⟨gb160, 4, none⟩) (Kd.S_far (p := ⟨gb160, 3, none⟩) (Kd.S_far (p := ⟨gb160, 2, none⟩) (Kd.S_far (p := ⟨gb160, 1, none⟩) (Kd.S_far (p := ⟨gb160, 0, none⟩) (Kd.S_types HO163.out BK160.out (by decide)) (fun _ hk => hk.2) (.int .i64 a0)) (fun _ hk => hk.2) (.string (⟨#[97]⟩ : ByteArray))) (fun _ hk => hk.2) (.int .i64 a1)) (fun _ hk => hk.2) (.int .i64 a2)) (fun _ hk => hk.2) (.int .i64 1)) (fun _ hk => hk.2) (.string (⟨#[]⟩ : ByteArray))) (fun _ hk => hk.2) (.string (⟨#[117]⟩ : ByteArray))) (fun _ hk => hk.2) (.int .i64 0)) (fun _ hk => hk.2) (.slice Ao9 y161.length co9)) (fun _ hk => trivial), bwx_⟩
def qct.l0 : Nat → List Int → List Int → Int → Option (Bool)
 | 0, _, _, _ => none
 | k + 1, x0, x1, x5 => if x5 < (x0.length : Int) then (if 0 ≤ x5 then (if x5 < (x1.length : Int) then (if (rd x0 x5) = (rd x1 x5) then (qct.l0 k x0 x1 (wrap64 (x5 + 1))) else (some false)) else (none)) else (none)) else (some true)
def qct.f (k : Nat) (l0 : List Int) (l1 : List Int) : Option (Bool) := if (l0.length : Int) = (l1.length : Int) then (qct.l0 k l0 l1 0) else (some false)
set_option maxHeartbeats 8000000 in
set_option maxRecDepth 100000 in
theorem qct.calls (k : Nat) (A0 : Option Addr) (c0 : Nat) (l0 : List Int) (A1 : Option Addr) (c1 : Nat) (l1 : List Int) (r : Bool) (w : World) (hr0 : Kd.C (Kd.int .i64) w A0 l0.length l0) (hc0 : l0.length ≤ c0) (hr1 : Kd.C (Kd.int .i64) w A1 l1.length l1) (hc1 : l1.length ≤ c1) (h : qct.f k l0 l1 = some r) :
  Calls Tryd.prog 49 #[.slice A0 l0.length c0, .slice A1 l1.length c1] w fun e w' => e = .returned (.bool r) ∧ qcl w w' := by
 have HR0 := qd.mk hr0
 have HC0 := qd.mk hc0
 clear hr0 hc0
 have HR1 := qd.mk hr1
 have HC1 := qd.mk hc1
 clear hr1 hc1
 have H : (if (l0.length : Int) = (l1.length : Int) then (qct.l0 k l0 l1 0) else (some false)) = some r := h
 clear h
 by_cases c3 : (l0.length : Int) = (l1.length : Int)
 ·rw [if_pos c3] at H
  have c3b0 : ((l0.length : Int) == (l1.length : Int)) = true := beq_iff_eq.mpr c3
  have c3b1 : ((l0.length : Int) != (l1.length : Int)) = false := bne_eq_false_iff_eq.mpr c3
  have c3b2 : (l0.length == l1.length) = true := by first | simpa using c3 | (simp at c3 ⊢; omega)
  clear c3
  have H' := qd.mk H
  clear H
  go_enter Tryd.func49, Tryd.ntmps49
  go_wp2
  repeat (go_quiet (fail); try go_wp2)
  go_loopg [5] k (fun kq v5 w' => ∃ (x5_1 : Int), v5 = .int .i64 x5_1 ∧ qd (qct.l0 kq l0 l1 x5_1 = some r) ∧ qd (kq ≤ k) ∧ qcl w w')
  case atStart => exact ⟨(0), sm_, H', ⟨Nat.le_refl _⟩, dn_⟩
  clear H'
  try clear c1
  try clear p2
  try clear c3
  try clear c3b0
  try clear c3b1
  try clear c3b2
  obtain ⟨x5_1, rfl, HA, HK1, ⟨m1, rfl⟩⟩ := hrel
  cases gk with
  | zero => exact absurd HA.out (by simp [qct.l0])
  | succ k1 =>
   have H := HA.out
   clear HA
   simp only [qct.l0] at H
   by_cases c4 : x5_1 < (l0.length : Int)
   rotate_left
   ·rw [if_neg c4] at H
    have c4b0 : decide (x5_1 < (l0.length : Int)) = false := decide_eq_false c4
    clear c4
    obtain rfl := Option.some.inj H
    go_wp2
    repeat (go_quiet (fail); try go_wp2)
    go_ret
    exact ⟨sm_, dn_⟩
   rw [if_pos c4] at H
   have c4b0 : decide (x5_1 < (l0.length : Int)) = true := decide_eq_true c4
   clear c4
   by_cases c5 : 0 ≤ x5_1
   rotate_left
   ·rw [if_neg c5] at H
    exact absurd H (by simp)
   rw [if_pos c5] at H
   have c5b0 : decide (0 ≤ x5_1) = true := decide_eq_true c5
   clear c5
   by_cases c6 : x5_1 < (l1.length : Int)
   rotate_left
   ·rw [if_neg c6] at H
    exact absurd H (by simp)
   rw [if_pos c6] at H
   have c6b0 : decide (x5_1 < (l1.length : Int)) = true := decide_eq_true c6
   clear c6
   by_cases c7 : (rd l0 x5_1) = (rd l1 x5_1)
   ·rw [if_pos c7] at H
    have c7b0 : ((rd l0 x5_1) == (rd l1 x5_1)) = true := beq_iff_eq.mpr c7
    have c7b1 : ((rd l0 x5_1) != (rd l1 x5_1)) = false := bne_eq_false_iff_eq.mpr c7
    clear c7
    have H' := qd.mk H
    clear H
    have p164 : 0 ≤ (x5_1 : Int) := odt_
    have q164 : x5_1 < (l0.length : Int) := odt_
    obtain ⟨ad164, e164, hx164_0⟩ := Kd.qmf HR0.out x5_1 p164 q164
    cases e164
    replace p164 := eq_true p164
    replace q164 := eq_true q164
    have p165 : 0 ≤ (x5_1 : Int) := odt_
    have q165 : x5_1 < (l1.length : Int) := odt_
    obtain ⟨ad165, e165, hx165_0⟩ := Kd.qmf HR1.out x5_1 p165 q165
    cases e165
    replace p165 := eq_true p165
    replace q165 := eq_true q165
    go_wp2
    repeat (go_quiet (fail); try go_wp2)
    go_roundg k1
    case measure => have := HK1.out; omega
    case rel => exact ⟨(wrap64 (x5_1 + 1)), sm_, H', ⟨by have := HK1.out; omega⟩, dn_⟩
   rw [if_neg c7] at H
   have c7b0 : ((rd l0 x5_1) == (rd l1 x5_1)) = false := beq_eq_false_iff_ne.mpr c7
   have c7b1 : ((rd l0 x5_1) != (rd l1 x5_1)) = true := bne_iff_ne.mpr c7
   obtain rfl := Option.some.inj H
   have p164 : 0 ≤ (x5_1 : Int) := odt_
   have q164 : x5_1 < (l0.length : Int) := odt_
   obtain ⟨ad164, e164, hx164_0⟩ := Kd.qmf HR0.out x5_1 p164 q164
   cases e164
   replace p164 := eq_true p164
   replace q164 := eq_true q164
   have p165 : 0 ≤ (x5_1 : Int) := odt_
   have q165 : x5_1 < (l1.length : Int) := odt_
   obtain ⟨ad165, e165, hx165_0⟩ := Kd.qmf HR1.out x5_1 p165 q165
   cases e165
   replace p165 := eq_true p165
   replace q165 := eq_true q165
   go_wp2
   repeat (go_quiet (fail); try go_wp2)
   go_ret
   exact ⟨sm_, dn_⟩
 ·rw [if_neg c3] at H
  have c3b0 : ((l0.length : Int) == (l1.length : Int)) = false := beq_eq_false_iff_ne.mpr c3
  have c3b1 : ((l0.length : Int) != (l1.length : Int)) = true := bne_iff_ne.mpr c3
  have c3b2 : (l0.length == l1.length) = false := by first | simpa using c3 | (simp at c3 ⊢; omega)
  obtain rfl := Option.some.inj H
  go_enter Tryd.func49, Tryd.ntmps49
  go_wp2
  repeat (go_quiet (fail); try go_wp2)
  go_ret
  exact ⟨sm_, dn_⟩
end Go.Proofs.YtppcjoaghlecmaaDoor.P
namespace Go.Proofs.YtppcjoaghlecmaaDoor.P
open Go.RowKit Go.Proofs.YtppcjoaghlecmaaDoorW.PrintWords Go.Proofs.YtppcjoaghlecmaaDoorW.PrintLast Go.Proofs.YtppcjoaghlecmaaDoorW.PrintMore
set_option linter.unusedVariables false
set_option linter.unusedSimpArgs false
def bA : ByteArray := ⟨#[97]⟩
def eur : ByteArray := ⟨#[69, 85, 82]⟩
def b10 : ByteArray := ⟨#[49, 48]⟩
def b40 : ByteArray := ⟨#[52, 48]⟩
def nilB : ByteArray := ⟨#[]⟩
def mv (no book value amount : Int) : S29 := ⟨no, bA, book, value, 1, nilB, ⟨#[117]⟩, 0, [⟨b10, eur, amount, amount, nilB, nilB, []⟩, ⟨b40, eur, -amount, -amount, nilB, nilB, []⟩]⟩
def m1 := mv 1 100 90 5
def m2 := mv 2 110 80 7
def m3 := mv 3 109 109 1
def m4 := mv 4 110 110 1
theorem p1 : postC [] m1 = 0 := by decide +kernel
theorem p2 : postC [m1] m2 = 0 := by decide +kernel
theorem p3 : postC [m1, m2] m3 = 17 := by decide +kernel
theorem p4 : postC [m1, m2] m4 = 17 := by decide +kernel
def c1 (a : Int) : S112 := ⟨⟨bA, b10, eur, nilB, nilB⟩, a, a⟩
def c4 (a : Int) : S112 := ⟨⟨bA, b40, eur, nilB, nilB⟩, a, a⟩
theorem sh1 : qmv [m1, m2] ⟨nilB, 0, 90, 100⟩ = ([c1 5, c4 (-5)], 0) := by kernel_rfl
theorem sh2 : qmv [m1, m2] ⟨bA, 0, 85, 110⟩ = ([c1 7, c4 (-7)], 0) := by kernel_rfl
theorem sh3 : qmv [m1, m2] ⟨⟨#[98]⟩, 0, 200, 200⟩ = ([], 0) := by kernel_rfl
theorem fd1 : findE [m1, m2] ⟨nilB, 0, 200, 200⟩ ⟨nilB, b10, nilB, nilB, nilB⟩ = [1, 2] := by kernel_rfl
theorem fd2 : findE [m1, m2] ⟨nilB, 85, 200, 200⟩ ⟨nilB, b40, nilB, nilB, nilB⟩ = [1] := by kernel_rfl
theorem sm1 : qct.f 10 [1, 2] [1, 2] = some true := by kernel_rfl
theorem sm2 : qct.f 10 [1] [1] = some true := by kernel_rfl
end Go.Proofs.YtppcjoaghlecmaaDoor.P
namespace Go.Proofs.YtppcjoaghlecmaaDoor.P
open Go.RowKit Go.Sort Go.Proofs.YtppcjoaghlecmaaDoorW.PrintWords Go.Proofs.YtppcjoaghlecmaaDoorW.PrintLast Go.Proofs.YtppcjoaghlecmaaDoorW.PrintMore Go.Maps Go.ChangeShapes Go.WideShapes Go.WideMaps Go.Shelf
set_option linter.unusedVariables false
set_option linter.unusedSimpArgs false
theorem move_is (no book value amt : Int) (hw : wrap64 (-amt) = -amt) (w : World) : Calls Tryd.prog 48 #[.int .i64 no, .int .i64 book, .int .i64 value, .string ⟨#[49, 48]⟩, .int .i64 amt] w fun e w' => ∃ A c, e = .returned (enV (mv no book value amt) A c) ∧ Kd.C k109 w' A (mv no book value amt).f8.length (mv no book value amt).f8 ∧ (mv no book value amt).f8.length ≤ c ∧ Below w.heap.size w w' := by
 have hf : qef.f no book value b10 amt = some (no, bA, book, value, 1, nilB, ⟨#[117]⟩, 0, (mv no book value amt).f8) := by
  unfold qef.f
  rw [hw]
  rfl
 refine (qef.calls _ _ _ _ _ _ _ _ _ _ _ _ _ _ w hf).mono ?_
 rintro e w' ⟨v, rfl, hS, hb⟩
 obtain ⟨A, c, rfl, hc, hC⟩ := Kd.S_reads hS
 exact ⟨A, c, rfl, hC, hc, hb⟩
theorem mv_fit (no book value amt : Int) : FitE (mv no book value amt) := by
 intro y hy
 simp only [mv, List.mem_cons, List.not_mem_nil, or_false] at hy
 rcases hy with rfl | rfl <;> (show (3 : Nat) ≤ maxLen; decide)
theorem post_is {w0 w : World} {p m : Nat} {E E' : List S29} {r : Int} (x : S29) (hr : postC E x = r) (hE : qjb E x = E') (h : qgq w0 w p m E) (hT : Tab w0) (A : Option Addr) (c : Nat) (hC : Kd.C k109 w A x.f8.length x.f8) (hc : x.f8.length ≤ c) (hf : FitE x) (hlen : E.length ≤ 100000) :
  Calls Tryd.prog 20 #[.pointer (some ⟨p, 0, none⟩), enV x A c] w fun e w' => e = .returned (.int .i64 r) ∧ qgq w0 w' p m E' := by
 refine (h.post hT x A c hC hc hf hlen).mono ?_
 rintro e w' ⟨he, h1, _⟩
 rw [hr] at he
 rw [hE] at h1
 exact ⟨he, h1⟩
theorem sheet_is {w0 w : World} {p m : Nat} {E : List S29} {s : List S112} (q : Qy) (hs : qmv E q = (s, 0)) (h : qgq w0 w p m E) (hg : qmi E) (hl : E.length ≤ 1000) :
  Calls Tryd.prog 19 #[.pointer (some ⟨p, 0, none⟩), qyV q] w fun e w' => ∃ A c, e = .returned (.tuple #[.slice A s.length c, .int .i64 0]) ∧ Kd.C k112 w' A s.length s ∧ Below w.heap.size w w' ∧ qgq w0 w' p m E := by
 refine (h.sheet hg hl q).mono ?_
 rw [hs]
 rintro e w' ⟨v, rfl, hr, hb, h2⟩
 obtain ⟨A, c, rfl, hc, hC⟩ := Kd.qhi hr
 exact ⟨A, c, rfl, hC, hb, h2⟩
theorem find_is {w0 w : World} {p m : Nat} {E : List S29} {s : List Int} (q : Qy) (key : S40) (hs : findE E q key = s) (h : qgq w0 w p m E) (hg : qmi E) (hl : E.length ≤ 1000) :
  Calls Tryd.prog 24 #[.pointer (some ⟨p, 0, none⟩), qyV q, keV key] w fun e w' => ∃ A c, e = .returned (.slice A s.length c) ∧ s.length ≤ c ∧ Kd.C (Kd.int .i64) w' A s.length s ∧ Below w.heap.size w w' ∧ qgq w0 w' p m E := by
 refine (h.find hg hl q key).mono ?_
 rw [hs]
 rintro e w' ⟨v, rfl, hr, hb, h2⟩
 obtain ⟨A, c, rfl, hc, hC⟩ := Kd.qhi hr
 exact ⟨A, c, rfl, hc, hC, hb, h2⟩
theorem good2 : qmi [m1, m2] := by
 intro x hx
 simp only [List.mem_cons, List.not_mem_nil, or_false] at hx
 rcases hx with rfl | rfl
 ·exact (by decide +kernel : (chkE m1).2 = 0)
 ·exact (by decide +kernel : (chkE m2).2 = 0)
theorem e1 : qjb [] m1 = [m1] := by unfold qjb; rw [if_pos p1]; rfl
theorem e2 : qjb [m1] m2 = [m1, m2] := by unfold qjb; rw [if_pos p2]; rfl
theorem e3 : qjb [m1, m2] m3 = [m1, m2] := by unfold qjb; rw [p3]; rfl
theorem e4 : qjb [m1, m2] m4 = [m1, m2] := by unfold qjb; rw [p4]; rfl
theorem lit_C (W : World) (xs : List Int) (hm : xs.length ≤ 1000 := by decide) : Kd.C (Kd.int .i64) (W.alloc (.cells (nums .i64 xs).toArray 3)) (some ⟨W.heap.size, 0, none⟩) xs.length xs :=
 (Kd.qbr (Kd.qky (ok := fun _ => True) (own_lit W W.heap.size 3 .i64 xs (Nat.le_refl _) (by omega)) (fun _ _ => trivial))).2.2
set_option maxHeartbeats 8000000 in
set_option maxRecDepth 100000 in
theorem qlr (w0 : World) (hT : Tab w0) : Calls Tryd.prog 17 #[] w0 fun e w' => e = .returned (.bool true) ∧ Below w0.heap.size w0 w' := by
 have HT := qd.mk hT
 clear hT
 go_enter Tryd.func17, Tryd.ntmps17
 go_upto_region 2 with (go_at_call 22; refine (qgq.made _).mono ?_; rintro e w1 ⟨p, m, rfl, h1⟩; have HL1 := qd.mk h1; clear h1)
 go_upto_region 3 with (first | (go_at_call 48; refine (move_is 1 100 90 5 (by unfold wrap64; omega) _).mono ?_; rintro e w2 ⟨A2, k2, rfl, hC2, hc2, hb2⟩; have HL2 := qd.mk (HL1.out.below hb2); have HC2 := qd.mk hC2; have Hc2 := qd.mk hc2; clear hC2 hc2 hb2) | (go_at_call 20; refine (post_is m1 p1 e1 HL2.out HT.out A2 k2 HC2.out Hc2.out (mv_fit _ _ _ _) (by simp)).mono ?_; rintro e w3 ⟨rfl, h3⟩; have HL3 := qd.mk h3; clear h3 HL1 HL2 HC2 Hc2))
 go_upto_region 4 with (first | (go_at_call 48; refine (move_is 2 110 80 7 (by unfold wrap64; omega) _).mono ?_; rintro e w4 ⟨A4, k4, rfl, hC2, hc2, hb2⟩; have HL4 := qd.mk (HL3.out.below hb2); have HC2 := qd.mk hC2; have Hc2 := qd.mk hc2; clear hC2 hc2 hb2) | (go_at_call 20; refine (post_is m2 p2 e2 HL4.out HT.out A4 k4 HC2.out Hc2.out (mv_fit _ _ _ _) (by simp)).mono ?_; rintro e w5 ⟨rfl, h3⟩; have HL5 := qd.mk h3; clear h3 HL3 HL4 HC2 Hc2))
 go_upto_region 5 with (first | (go_at_call 48; refine (move_is 3 109 109 1 (by unfold wrap64; omega) _).mono ?_; rintro e w6 ⟨A6, k6, rfl, hC2, hc2, hb2⟩; have HL6 := qd.mk (HL5.out.below hb2); have HC2 := qd.mk hC2; have Hc2 := qd.mk hc2; clear hC2 hc2 hb2) | (go_at_call 20; refine (post_is m3 p3 e3 HL6.out HT.out A6 k6 HC2.out Hc2.out (mv_fit _ _ _ _) (by simp)).mono ?_; rintro e w7 ⟨rfl, h3⟩; have HL7 := qd.mk h3; clear h3 HL5 HL6 HC2 Hc2))
 go_upto_region 6 with (first | (go_at_call 48; refine (move_is 4 110 110 1 (by unfold wrap64; omega) _).mono ?_; rintro e w8 ⟨A8, k8, rfl, hC2, hc2, hb2⟩; have HL8 := qd.mk (HL7.out.below hb2); have HC2 := qd.mk hC2; have Hc2 := qd.mk hc2; clear hC2 hc2 hb2) | (go_at_call 20; refine (post_is m4 p4 e4 HL8.out HT.out A8 k8 HC2.out Hc2.out (mv_fit _ _ _ _) (by simp)).mono ?_; rintro e w9 ⟨rfl, h3⟩; have HL9 := qd.mk h3; clear h3 HL7 HL8 HC2 Hc2))
 go_upto_region 7 with (go_at_call 19; refine (sheet_is ⟨nilB, 0, 90, 100⟩ sh1 HL9.out good2 (by simp)).mono ?_; rintro e wa ⟨Aa, ca, rfl, hC, hb, h2⟩; have HLa := qd.mk h2; have HCa := qd.mk hC; clear hC hb h2 HL9)
 go_upto_region 8 with (go_at_call 19; refine (sheet_is ⟨bA, 0, 85, 110⟩ sh2 HLa.out good2 (by simp)).mono ?_; rintro e wb ⟨Ab, cb, rfl, hC, hb, h2⟩; have HLb := qd.mk h2; have HCb := qd.mk hC; have HCa' := qd.mk (Kd.qcd HCa.out hb); clear hC hb h2 HLa HCa)
 go_upto_region 9 with (go_at_call 19; refine (sheet_is ⟨⟨#[98]⟩, 0, 200, 200⟩ sh3 HLb.out good2 (by simp)).mono ?_; rintro e wc ⟨Ac, cc, rfl, hC, hb, h2⟩; have HLc := qd.mk h2; have HCa := qd.mk (Kd.qcd HCa'.out hb); have HCb' := qd.mk (Kd.qcd HCb.out hb); clear hC hb h2 HLb HCa' HCb)
 go_upto_region 11 with (go_at_call 23; refine HLc.out.len.mono ?_; rintro e wd ⟨rfl, hb⟩; have HLd := qd.mk (HLc.out.below hb); have HCb := qd.mk (Kd.qcd HCb'.out hb); have HCa2 := qd.mk (Kd.qcd HCa.out hb); clear hb HLc HCb' HCa)
 go_upto_region 12 with (go_at_call 24; refine (find_is ⟨nilB, 0, 200, 200⟩ ⟨nilB, b10, nilB, nilB, nilB⟩ fd1 HLd.out good2 (by simp)).mono ?_; rintro e we ⟨An, cn, rfl, hcn, hC, hb, h2⟩; have HLe := qd.mk h2; have HCn := qd.mk hC; have Hcn := qd.mk hcn; have HCb2 := qd.mk (Kd.qcd HCb.out hb); have HCa3 := qd.mk (Kd.qcd HCa2.out hb); clear hC hb h2 hcn HLd HCb HCa2)
 go_upto_region 13 with (go_at_call 24; refine (find_is ⟨nilB, 85, 200, 200⟩ ⟨nilB, b40, nilB, nilB, nilB⟩ fd2 HLe.out good2 (by simp)).mono ?_; rintro e wf ⟨Am, cm, rfl, hcm, hC, hb, h2⟩; have HLf := qd.mk h2; have HCm := qd.mk hC; have Hcm := qd.mk hcm; have HCn2 := qd.mk (Kd.qcd HCn.out hb); have HCb3 := qd.mk (Kd.qcd HCb2.out hb); have HCa4 := qd.mk (Kd.qcd HCa3.out hb); clear hC hb h2 hcm HLe HCn HCb2 HCa3)
 obtain ⟨ada, ea, a0, a1, a2, a3, a4, a5, a6⟩ := qek HCa4.out 0 (by omega) (by simp)
 obtain ⟨ada', ea', x0, x1, x2, x3, x4, x5, x6⟩ := qek HCa4.out 1 (by omega) (by simp)
 obtain ⟨adb, eb, b0, b1, b2, b3, b4, b5, b6⟩ := qek HCb3.out 0 (by omega) (by simp)
 cases ea
 cases ea'
 cases eb
 have ad0 : ∀ (d : Addr) (n : Nat), (d.add n).block = d.block ∧ (d.add n).off = d.off + n := fun d n => by unfold Addr.add; split <;> simp_all
 have a1' : wf.cell? ⟨ada.block, ada.off + 1, none⟩ = some (.string ⟨#[49, 48]⟩) := by
  rw [(ad0 _ _).1, (ad0 _ _).2] at a1
  exact a1
 have a6' : wf.cell? ⟨ada.block, ada.off + 6, none⟩ = some (.int .i64 5) := by
  rw [(ad0 _ _).1, (ad0 _ _).2] at a6
  exact a6
 have x6' : wf.cell? ⟨ada.block, ada.off + 7 + 6, none⟩ = some (.int .i64 (-5)) := by
  rw [(ad0 _ _).1, (ad0 _ _).2] at x6
  exact x6
 have b6' : wf.cell? ⟨adb.block, adb.off + 6, none⟩ = some (.int .i64 7) := by
  rw [(ad0 _ _).1, (ad0 _ _).2] at b6
  exact b6
 clear ad0
 clear a0 a1 a2 a3 a4 a5 a6 x0 x1 x2 x3 x4 x5 x6 b0 b1 b2 b3 b4 b5 b6
 have HBL := qd.mk HLf.out.bel
 have HS1 := qd.mk (show Calls Tryd.prog 49 #[.slice An 2 cn, .slice (some ⟨wf.heap.size, 0, none⟩) 2 2] (wf.alloc (.cells #[.int .i64 1, .int .i64 2] 3)) (fun e w' => e = .returned (.bool true) ∧ qcl (wf.alloc (.cells #[.int .i64 1, .int .i64 2] 3)) w') from
  qct.calls 10 An cn [1, 2] (some ⟨wf.heap.size, 0, none⟩) 2 [1, 2] true _ (Kd.qco HCn2.out _) Hcn.out (lit_C wf [1, 2]) (by simp) sm1)
 have HS2 := qd.mk (fun (W : World) (hW : Below wf.heap.size wf W) => show Calls Tryd.prog 49 #[.slice Am 1 cm, .slice (some ⟨W.heap.size, 0, none⟩) 1 1] (W.alloc (.cells #[.int .i64 1] 3)) (fun e w' => e = .returned (.bool true) ∧ qcl (W.alloc (.cells #[.int .i64 1] 3)) w') from
  qct.calls 10 Am cm [1] (some ⟨W.heap.size, 0, none⟩) 1 [1] true _ (Kd.qco (Kd.qcd HCm.out hW) _) Hcm.out (lit_C W [1]) (by simp) sm2)
 have HBF := qd.mk (qbj (Below.refl wf.heap.size wf) (.cells #[.int .i64 1, .int .i64 2] 3))
 clear HCn2 Hcn HCm Hcm HCa4 HCb3 HLf HT
 go_wp2_with (first
  | (go_at_call 49; (with_reducible refine HS1.out.mono ?_); rintro e wg ⟨rfl, hd⟩; have HDg := qd.mk (qch HBF.out HBF.out.size hd.below); clear hd)
  | (go_at_call 49; (with_reducible refine (HS2.out _ HDg.out).mono ?_); rintro e wh ⟨rfl, hd⟩; have HDh := qd.mk hd.below; clear hd))
 go_ret
 refine ⟨rfl, ?_⟩
 have h1 : Below w0.heap.size w0 wg := qch HBL.out HBL.out.size HDg.out
 exact qch (qbj h1 _) (qbj h1 _).size HDh.out
end Go.Proofs.YtppcjoaghlecmaaDoor.P
namespace Go.Proofs.YtppcjoaghlecmaaDoor.P
open Go.RowKit Go.Proofs.YtppcjoaghlecmaaDoorW.PrintWords Go.Proofs.YtppcjoaghlecmaaDoorW.PrintLast Go.Proofs.YtppcjoaghlecmaaDoorW.PrintMore
attribute [local go_sem] qfa qey qft qfs qej qei qez qex
set_option linter.unusedVariables false
set_option linter.unusedSimpArgs false
mutual
def qbh.l0 : Nat → List (S29) → Int → Int → Option (Bool)
 | 0, _, _, _ => none
 | k + 1, x0, x3, x4 => if x4 < (x0.length : Int) then (if 0 ≤ x4 then (if (wrap64 (x3 + (((qdd x0 x4).f8).length : Int))) > 400 then (qbh.j1 k x0 (wrap64 (x3 + (((qdd x0 x4).f8).length : Int))) x4 true) else (qbh.j1 k x0 (wrap64 (x3 + (((qdd x0 x4).f8).length : Int))) x4 (decide ((wrap64 ((wrap64 ((((qdd x0 x4).f1).size : Int) + (((qdd x0 x4).f5).size : Int))) + (((qdd x0 x4).f6).size : Int))) > 400)))) else (none)) else (some false)
def qbh.j1 : Nat → List (S29) → Int → Int → Bool → Option (Bool)
 | 0, _, _, _, _ => none
 | k + 1, x0, x3, x4, x48 => if x48 = true then (some true) else (qbh.l1 k x0 x3 x4 0)
def qbh.l1 : Nat → List (S29) → Int → Int → Int → Option (Bool)
 | 0, _, _, _, _ => none
 | k + 1, x0, x3, x4, x5 => if 0 ≤ x4 then (if x4 < (x0.length : Int) then (if x5 < (((qdd x0 x4).f8).length : Int) then (if 0 ≤ x5 then (if (((ql ((qdd x0 x4).f8) x5).f6).length : Int) > 20 then (some true) else (if (wrap64 ((wrap64 ((wrap64 ((((ql ((qdd x0 x4).f8) x5).f0).size : Int) + (((ql ((qdd x0 x4).f8) x5).f1).size : Int))) + (((ql ((qdd x0 x4).f8) x5).f4).size : Int))) + (((ql ((qdd x0 x4).f8) x5).f5).size : Int))) > 400 then (some true) else (qbh.l1 k x0 x3 x4 (wrap64 (x5 + 1))))) else (none)) else (qbh.l0 k x0 x3 (wrap64 (x4 + 1)))) else (none)) else (none)
end
def qbh.f (k : Nat) (l0 : List (S29)) : Option (Bool) := if (l0.length : Int) > 40 then (some true) else (qbh.l0 k l0 0 0)
set_option maxHeartbeats 8000000 in
set_option maxRecDepth 100000 in
theorem qbh.calls (k : Nat) (A0 : Option Addr) (c0 : Nat) (l0 : List (S29)) (r : Bool) (w : World) (hr0 : Kd.C k29 w A0 l0.length l0) (hc0 : l0.length ≤ c0) (h : qbh.f k l0 = some r) :
  Calls Tryd.prog 16 #[.slice A0 l0.length c0] w fun e w' => e = .returned (.bool r) ∧ Below w.heap.size w w' := by
 have hu109 := Tryd.underlying109
 have HR0 := qd.mk hr0
 have HC0 := qd.mk hc0
 clear hr0 hc0
 have HB := qd.mk (Below.refl w.heap.size w)
 have H : (if (l0.length : Int) > 40 then (some true) else (qbh.l0 k l0 0 0)) = some r := h
 clear h
 by_cases c2 : (l0.length : Int) > 40
 ·rw [if_pos c2] at H
  have c2b0 : decide (40 < (l0.length : Int)) = true := decide_eq_true c2
  have c2b1 : decide (40 < l0.length) = true := decide_eq_true (by omega)
  clear c2
  obtain rfl := Option.some.inj H
  go_enter Tryd.func16, Tryd.ntmps16
  go_wp2
  repeat (go_quiet (fail); try go_wp2)
  go_ret
  exact ⟨ew_, bw_⟩
 ·rw [if_neg c2] at H
  have c2b0 : decide (40 < (l0.length : Int)) = false := decide_eq_false c2
  have c2b1 : decide (40 < l0.length) = false := decide_eq_false (by omega)
  clear c2
  have H' := qd.mk H
  clear H
  go_enter Tryd.func16, Tryd.ntmps16
  go_wp2
  repeat (go_quiet (fail); try go_wp2)
  go_loopg [3, 4] k (fun kq v3 v4 w' => ∃ (x3_1 : Int) (x4_1 : Int), v3 = .int .i64 x3_1 ∧ v4 = .int .i64 x4_1 ∧ qd (qbh.l0 kq l0 x3_1 x4_1 = some r) ∧ qd (kq ≤ k) ∧ qd (Below w.heap.size w w'))
  case atStart => exact ⟨(0), (0), sm_, sm_, H', ⟨Nat.le_refl _⟩, ⟨bw_⟩⟩
  case round =>
   clear H'
   try clear c1
   try clear c2
   try clear c2b0
   try clear c2b1
   try clear p2
   obtain ⟨x3_1, x4_1, rfl, rfl, HA, HK1, HB⟩ := hrel
   cases gk with
   | zero => exact absurd HA.out (by simp [qbh.l0])
   | succ k1 =>
    have H := HA.out
    clear HA
    simp only [qbh.l0] at H
    by_cases c3 : x4_1 < (l0.length : Int)
    ·rw [if_pos c3] at H
     have c3b0 : decide (x4_1 < (l0.length : Int)) = true := decide_eq_true c3
     clear c3
     by_cases c4 : 0 ≤ x4_1
     rotate_left
     ·rw [if_neg c4] at H
      exact absurd H (by simp)
     rw [if_pos c4] at H
     have c4b0 : decide (0 ≤ x4_1) = true := decide_eq_true c4
     clear c4
     have HC5 := qd.mk H
     clear H
     have p101 : 0 ≤ (x4_1 : Int) := odt_
     have q101 : x4_1 < (l0.length : Int) := odt_
     obtain ⟨ad101, A101_8, c101_8, e101, hx101_0, hx101_1, hx101_2, hx101_3, hx101_4, hx101_5, hx101_6, hx101_7, hx101_8, hl101_8, hi101_8⟩ := qip HR0.out x4_1 p101 q101
     cases e101
     replace hx101_0 := bcl_ HB hx101_0
     replace hx101_1 := bcl_ HB hx101_1
     replace hx101_2 := bcl_ HB hx101_2
     replace hx101_3 := bcl_ HB hx101_3
     replace hx101_4 := bcl_ HB hx101_4
     replace hx101_5 := bcl_ HB hx101_5
     replace hx101_6 := bcl_ HB hx101_6
     replace hx101_7 := bcl_ HB hx101_7
     replace hx101_8 := bcl_ HB hx101_8
     have HR101_8 := qd.mk hi101_8
     have HC101_8 := qd.mk hl101_8
     clear hi101_8 hl101_8
     replace p101 := eq_true p101
     replace q101 := eq_true q101
     go_upto_region 8 with (fail)
     repeat (go_quiet (fail); go_upto_region 8 with (fail))
     go_cut [48] (fun v48 wc => ∃ (kq : Nat) (x48_4 : Bool), v48 = .bool x48_4 ∧ qd (qbh.j1 kq l0 (wrap64 (x3_1 + (((qdd l0 x4_1).f8).length : Int))) x4_1 x48_4 = some r) ∧ qd (kq ≤ k1) ∧ qd (Below w.heap.size w wc))
     case first =>
      have H := HC5.out
      clear HC5
      by_cases c6 : (wrap64 (x3_1 + (((qdd l0 x4_1).f8).length : Int))) > 400
      ·rw [if_pos c6] at H
       have c6b0 : decide (400 < (wrap64 (x3_1 + (((qdd l0 x4_1).f8).length : Int)))) = true := decide_eq_true c6
       clear c6
       (first | rw [c6b0] | (simp only [qes, qfj]; rw [c6b0]) | skip)
       have H' := qd.mk H
       clear H
       go_wp2
       repeat (go_quiet (fail); try go_wp2)
       go_meet
       case rel => exact ⟨_, (true), sm_, H', ⟨by have := HK1.out; first | omega | exact Nat.le_refl _⟩, ⟨bw_⟩⟩
      rw [if_neg c6] at H
      have c6b0 : decide (400 < (wrap64 (x3_1 + (((qdd l0 x4_1).f8).length : Int)))) = false := decide_eq_false c6
      clear c6
      (first | rw [c6b0] | (simp only [qes, qfj]; rw [c6b0]) | skip)
      have H' := qd.mk H
      clear H
      have p102 : 0 ≤ (x4_1 : Int) := odt_
      have q102 : x4_1 < (l0.length : Int) := odt_
      obtain ⟨ad102, A102_8, c102_8, e102, hx102_0, hx102_1, hx102_2, hx102_3, hx102_4, hx102_5, hx102_6, hx102_7, hx102_8, hl102_8, hi102_8⟩ := qip HR0.out x4_1 p102 q102
      obtain rfl : ad101 = ad102 := (by injection e102)
      replace hx102_0 := bcl_ HB hx102_0
      replace hx102_1 := bcl_ HB hx102_1
      replace hx102_2 := bcl_ HB hx102_2
      replace hx102_3 := bcl_ HB hx102_3
      replace hx102_4 := bcl_ HB hx102_4
      replace hx102_5 := bcl_ HB hx102_5
      replace hx102_6 := bcl_ HB hx102_6
      replace hx102_7 := bcl_ HB hx102_7
      replace hx102_8 := bcl_ HB hx102_8
      have HR102_8 := qd.mk hi102_8
      have HC102_8 := qd.mk hl102_8
      clear hi102_8 hl102_8
      replace p102 := eq_true p102
      replace q102 := eq_true q102
      have p103 : 0 ≤ (x4_1 : Int) := odt_
      have q103 : x4_1 < (l0.length : Int) := odt_
      obtain ⟨ad103, A103_8, c103_8, e103, hx103_0, hx103_1, hx103_2, hx103_3, hx103_4, hx103_5, hx103_6, hx103_7, hx103_8, hl103_8, hi103_8⟩ := qip HR0.out x4_1 p103 q103
      obtain rfl : ad101 = ad103 := (by injection e103)
      replace hx103_0 := bcl_ HB hx103_0
      replace hx103_1 := bcl_ HB hx103_1
      replace hx103_2 := bcl_ HB hx103_2
      replace hx103_3 := bcl_ HB hx103_3
      replace hx103_4 := bcl_ HB hx103_4
      replace hx103_5 := bcl_ HB hx103_5
      replace hx103_6 := bcl_ HB hx103_6
      replace hx103_7 := bcl_ HB hx103_7
      replace hx103_8 := bcl_ HB hx103_8
      have HR103_8 := qd.mk hi103_8
      have HC103_8 := qd.mk hl103_8
      clear hi103_8 hl103_8
      replace p103 := eq_true p103
      replace q103 := eq_true q103
      have ea_ := Option.some.inj (hx102_8.symm.trans hx103_8)
      injection ea_ with ea_ en_ ec_
      subst ea_
      subst ec_
      clear en_
      have p104 : 0 ≤ (x4_1 : Int) := odt_
      have q104 : x4_1 < (l0.length : Int) := odt_
      obtain ⟨ad104, A104_8, c104_8, e104, hx104_0, hx104_1, hx104_2, hx104_3, hx104_4, hx104_5, hx104_6, hx104_7, hx104_8, hl104_8, hi104_8⟩ := qip HR0.out x4_1 p104 q104
      obtain rfl : ad101 = ad104 := (by injection e104)
      replace hx104_0 := bcl_ HB hx104_0
      replace hx104_1 := bcl_ HB hx104_1
      replace hx104_2 := bcl_ HB hx104_2
      replace hx104_3 := bcl_ HB hx104_3
      replace hx104_4 := bcl_ HB hx104_4
      replace hx104_5 := bcl_ HB hx104_5
      replace hx104_6 := bcl_ HB hx104_6
      replace hx104_7 := bcl_ HB hx104_7
      replace hx104_8 := bcl_ HB hx104_8
      have HR104_8 := qd.mk hi104_8
      have HC104_8 := qd.mk hl104_8
      clear hi104_8 hl104_8
      replace p104 := eq_true p104
      replace q104 := eq_true q104
      have ea_ := Option.some.inj (hx102_8.symm.trans hx104_8)
      injection ea_ with ea_ en_ ec_
      subst ea_
      subst ec_
      clear en_
      go_wp2
      repeat (go_quiet (fail); try go_wp2)
      go_meet
      case rel => exact ⟨_, (decide ((wrap64 ((wrap64 ((((qdd l0 x4_1).f1).size : Int) + (((qdd l0 x4_1).f5).size : Int))) + (((qdd l0 x4_1).f6).size : Int))) > 400)), sm_, H', ⟨by have := HK1.out; first | omega | exact Nat.le_refl _⟩, ⟨bw_⟩⟩
     clear HC5
     try clear c1
     try clear p1
     try clear q1
     try clear hx1
     try clear c2
     try clear c2b0
     try clear c2b1
     try clear p2
     try clear c3
     try clear c3b0
     try clear c4
     try clear c4b0
     try clear c6
     try clear c6b0
     try clear p6
     try clear hx101_0
     try clear hx101_1
     try clear hx101_2
     try clear hx101_3
     try clear hx101_4
     try clear hx101_5
     try clear hx101_6
     try clear hx101_7
     try clear hx101_8
     try clear hx102_0
     try clear hx102_1
     try clear hx102_2
     try clear hx102_3
     try clear hx102_4
     try clear hx102_5
     try clear hx102_6
     try clear hx102_7
     try clear hx102_8
     try clear hx103_0
     try clear hx103_1
     try clear hx103_2
     try clear hx103_3
     try clear hx103_4
     try clear hx103_5
     try clear hx103_6
     try clear hx103_7
     try clear hx103_8
     try clear hx104_0
     try clear hx104_1
     try clear hx104_2
     try clear hx104_3
     try clear hx104_4
     try clear hx104_5
     try clear hx104_6
     try clear hx104_7
     try clear hx104_8
     try clear p101
     try clear p102
     try clear p103
     try clear p104
     try clear p2
     try clear q101
     try clear q102
     try clear q103
     try clear q104
     obtain ⟨kq, x48_4, rfl, HA, HJ4, HB⟩ := hcut
     cases kq with
     | zero => exact absurd HA.out (by simp [qbh.j1])
     | succ kj4 =>
      have H := HA.out
      clear HA
      simp only [qbh.j1] at H
      by_cases c7 : x48_4 = true
      ·subst c7
       have H1 : (some true) = some r := by rw [if_pos rfl] at H; exact H
       clear H
       have H := H1
       clear H1
       obtain rfl := Option.some.inj H
       go_wp2
       repeat (go_quiet (fail); try go_wp2)
       go_ret
       exact ⟨ew_, bw_⟩
      replace c7 := Bool.eq_false_iff.mpr c7
      subst c7
      have H1 : (qbh.l1 kj4 l0 (wrap64 (x3_1 + (((qdd l0 x4_1).f8).length : Int))) x4_1 0) = some r := by rw [if_neg (show ¬ (false = true) by decide)] at H; exact H
      clear H
      have H := H1
      clear H1
      have H' := qd.mk H
      clear H
      go_wp2
      repeat (go_quiet (fail); try go_wp2)
      go_loopg [5] kj4 (fun kq v5 w' => ∃ (x5_3 : Int), v5 = .int .i64 x5_3 ∧ qd (qbh.l1 kq l0 (wrap64 (x3_1 + (((qdd l0 x4_1).f8).length : Int))) x4_1 x5_3 = some r) ∧ qd (kq ≤ kj4) ∧ qd (Below w.heap.size w w'))
      case atStart => exact ⟨(0), sm_, H', ⟨Nat.le_refl _⟩, ⟨bw_⟩⟩
      clear H'
      try clear c1
      try clear p1
      try clear q1
      try clear hx1
      try clear c2
      try clear c2b0
      try clear c2b1
      try clear p2
      try clear c3
      try clear c3b0
      try clear c4
      try clear c4b0
      try clear c6
      try clear c6b0
      try clear p6
      try clear c7
      try clear hx101_0
      try clear hx101_1
      try clear hx101_2
      try clear hx101_3
      try clear hx101_4
      try clear hx101_5
      try clear hx101_6
      try clear hx101_7
      try clear hx101_8
      try clear hx102_0
      try clear hx102_1
      try clear hx102_2
      try clear hx102_3
      try clear hx102_4
      try clear hx102_5
      try clear hx102_6
      try clear hx102_7
      try clear hx102_8
      try clear hx103_0
      try clear hx103_1
      try clear hx103_2
      try clear hx103_3
      try clear hx103_4
      try clear hx103_5
      try clear hx103_6
      try clear hx103_7
      try clear hx103_8
      try clear hx104_0
      try clear hx104_1
      try clear hx104_2
      try clear hx104_3
      try clear hx104_4
      try clear hx104_5
      try clear hx104_6
      try clear hx104_7
      try clear hx104_8
      try clear p1
      try clear p101
      try clear p102
      try clear p103
      try clear p104
      try clear p2
      try clear p6
      try clear q1
      try clear q101
      try clear q102
      try clear q103
      try clear q104
      obtain ⟨x5_3, rfl, HA, HK3, HB⟩ := hrel
      cases gk with
      | zero => exact absurd HA.out (by simp [qbh.l1])
      | succ k3 =>
       have H := HA.out
       clear HA
       simp only [qbh.l1] at H
       by_cases c8 : 0 ≤ x4_1
       rotate_left
       ·rw [if_neg c8] at H
        exact absurd H (by simp)
       rw [if_pos c8] at H
       have c8b0 : decide (0 ≤ x4_1) = true := decide_eq_true c8
       clear c8
       by_cases c9 : x4_1 < (l0.length : Int)
       rotate_left
       ·rw [if_neg c9] at H
        exact absurd H (by simp)
       rw [if_pos c9] at H
       have c9b0 : decide (x4_1 < (l0.length : Int)) = true := decide_eq_true c9
       clear c9
       by_cases c10 : x5_3 < (((qdd l0 x4_1).f8).length : Int)
       rotate_left
       ·rw [if_neg c10] at H
        have c10b0 : decide (x5_3 < (((qdd l0 x4_1).f8).length : Int)) = false := decide_eq_false c10
        clear c10
        have H' := qd.mk H
        clear H
        have p105 : 0 ≤ (x4_1 : Int) := odt_
        have q105 : x4_1 < (l0.length : Int) := odt_
        obtain ⟨ad105, A105_8, c105_8, e105, hx105_0, hx105_1, hx105_2, hx105_3, hx105_4, hx105_5, hx105_6, hx105_7, hx105_8, hl105_8, hi105_8⟩ := qip HR0.out x4_1 p105 q105
        obtain rfl : ad101 = ad105 := (by injection e105)
        replace hx105_0 := bcl_ HB hx105_0
        replace hx105_1 := bcl_ HB hx105_1
        replace hx105_2 := bcl_ HB hx105_2
        replace hx105_3 := bcl_ HB hx105_3
        replace hx105_4 := bcl_ HB hx105_4
        replace hx105_5 := bcl_ HB hx105_5
        replace hx105_6 := bcl_ HB hx105_6
        replace hx105_7 := bcl_ HB hx105_7
        replace hx105_8 := bcl_ HB hx105_8
        have HR105_8 := qd.mk hi105_8
        have HC105_8 := qd.mk hl105_8
        clear hi105_8 hl105_8
        replace p105 := eq_true p105
        replace q105 := eq_true q105
        go_wp2
        repeat (go_quiet (fail); try go_wp2)
        go_roundg k3
        case measure => have := HK1.out; have := HJ4.out; have := HK3.out; omega
        case rel => exact ⟨((wrap64 (x3_1 + (((qdd l0 x4_1).f8).length : Int)))), (wrap64 (x4_1 + 1)), sm_, sm_, H', ⟨by have := HK1.out; have := HJ4.out; have := HK3.out; omega⟩, ⟨bw_⟩⟩
       rw [if_pos c10] at H
       have c10b0 : decide (x5_3 < (((qdd l0 x4_1).f8).length : Int)) = true := decide_eq_true c10
       clear c10
       by_cases c11 : 0 ≤ x5_3
       rotate_left
       ·rw [if_neg c11] at H
        exact absurd H (by simp)
       rw [if_pos c11] at H
       have c11b0 : decide (0 ≤ x5_3) = true := decide_eq_true c11
       clear c11
       by_cases c12 : (((ql ((qdd l0 x4_1).f8) x5_3).f6).length : Int) > 20
       ·rw [if_pos c12] at H
        have c12b0 : decide (20 < (((ql ((qdd l0 x4_1).f8) x5_3).f6).length : Int)) = true := decide_eq_true c12
        have c12b1 : decide (20 < ((ql ((qdd l0 x4_1).f8) x5_3).f6).length) = true := decide_eq_true (by omega)
        clear c12
        obtain rfl := Option.some.inj H
        have p105 : 0 ≤ (x4_1 : Int) := odt_
        have q105 : x4_1 < (l0.length : Int) := odt_
        obtain ⟨ad105, A105_8, c105_8, e105, hx105_0, hx105_1, hx105_2, hx105_3, hx105_4, hx105_5, hx105_6, hx105_7, hx105_8, hl105_8, hi105_8⟩ := qip HR0.out x4_1 p105 q105
        obtain rfl : ad101 = ad105 := (by injection e105)
        replace hx105_0 := bcl_ HB hx105_0
        replace hx105_1 := bcl_ HB hx105_1
        replace hx105_2 := bcl_ HB hx105_2
        replace hx105_3 := bcl_ HB hx105_3
        replace hx105_4 := bcl_ HB hx105_4
        replace hx105_5 := bcl_ HB hx105_5
        replace hx105_6 := bcl_ HB hx105_6
        replace hx105_7 := bcl_ HB hx105_7
        replace hx105_8 := bcl_ HB hx105_8
        have HR105_8 := qd.mk hi105_8
        have HC105_8 := qd.mk hl105_8
        clear hi105_8 hl105_8
        replace p105 := eq_true p105
        replace q105 := eq_true q105
        have p106 : 0 ≤ (x4_1 : Int) := odt_
        have q106 : x4_1 < (l0.length : Int) := odt_
        obtain ⟨ad106, A106_8, c106_8, e106, hx106_0, hx106_1, hx106_2, hx106_3, hx106_4, hx106_5, hx106_6, hx106_7, hx106_8, hl106_8, hi106_8⟩ := qip HR0.out x4_1 p106 q106
        obtain rfl : ad101 = ad106 := (by injection e106)
        replace hx106_0 := bcl_ HB hx106_0
        replace hx106_1 := bcl_ HB hx106_1
        replace hx106_2 := bcl_ HB hx106_2
        replace hx106_3 := bcl_ HB hx106_3
        replace hx106_4 := bcl_ HB hx106_4
        replace hx106_5 := bcl_ HB hx106_5
        replace hx106_6 := bcl_ HB hx106_6
        replace hx106_7 := bcl_ HB hx106_7
        replace hx106_8 := bcl_ HB hx106_8
        have HR106_8 := qd.mk hi106_8
        have HC106_8 := qd.mk hl106_8
        clear hi106_8 hl106_8
        replace p106 := eq_true p106
        replace q106 := eq_true q106
        have ea_ := Option.some.inj (hx105_8.symm.trans hx106_8)
        injection ea_ with ea_ en_ ec_
        subst ea_
        subst ec_
        clear en_
        have p107 : 0 ≤ (x5_3 : Int) := odt_
        have q107 : x5_3 < (((qdd l0 x4_1).f8).length : Int) := odt_
        obtain ⟨ad107, A107_6, c107_6, e107, hx107_0, hx107_1, hx107_2, hx107_3, hx107_4, hx107_5, hx107_6, hl107_6, hi107_6⟩ := qff HR106_8.out x5_3 p107 q107
        cases e107
        replace hx107_0 := bcl_ HB hx107_0
        replace hx107_1 := bcl_ HB hx107_1
        replace hx107_2 := bcl_ HB hx107_2
        replace hx107_3 := bcl_ HB hx107_3
        replace hx107_4 := bcl_ HB hx107_4
        replace hx107_5 := bcl_ HB hx107_5
        replace hx107_6 := bcl_ HB hx107_6
        have HR107_6 := qd.mk hi107_6
        have HC107_6 := qd.mk hl107_6
        clear hi107_6 hl107_6
        replace p107 := eq_true p107
        replace q107 := eq_true q107
        go_wp2_with (first | ((with_reducible refine qce (N := 6) rfl ?_); (try (refine qfm (by rfl) ?_; dsimp only)); refine qcc ?hg (N := 6) ?hd (cs := #[.string (⟨#[]⟩ : ByteArray), .string (⟨#[]⟩ : ByteArray), .int .i64 0, .int .i64 0, .string (⟨#[]⟩ : ByteArray), .string (⟨#[]⟩ : ByteArray), .slice none 0 0]) (t := 109) ?hr ?_; (case hd => rfl); (case hg => rfl); (case hr => first | (go_simp; done) | (go_simp; rfl)); intro gb108 hg w13 hbox hb; have n0_ := qd.mk (qbd (bw_) hb); have n1_ := qd.mk (hbox); have n2_ := qd.mk (gw_ (w := w) hg); have n3_ := qd.mk (gw_ (w := w) hg); clear HB; have HB := n0_; have BK108 := n1_; have GW108 := n2_; have GE108 := n3_; clear n0_ n1_ n2_ n3_; clear hb hbox hg; obtain ⟨cz14_0, cz14_1, cz14_2, cz14_3, cz14_4, cz14_5, cz14_6⟩ := bc7_ (w := w13) BK108.out; obtain ⟨fz14_0, fz14_1, fz14_2, fz14_3, fz14_4, fz14_5, fz14_6⟩ := bf7_ BK108.out))
        repeat (go_quiet (first | ((with_reducible refine qce (N := 6) rfl ?_); (try (refine qfm (by rfl) ?_; dsimp only)); refine qcc ?hg (N := 6) ?hd (cs := #[.string (⟨#[]⟩ : ByteArray), .string (⟨#[]⟩ : ByteArray), .int .i64 0, .int .i64 0, .string (⟨#[]⟩ : ByteArray), .string (⟨#[]⟩ : ByteArray), .slice none 0 0]) (t := 109) ?hr ?_; (case hd => rfl); (case hg => rfl); (case hr => first | (go_simp; done) | (go_simp; rfl)); intro gb108 hg w13 hbox hb; have n0_ := qd.mk (qbd (bw_) hb); have n1_ := qd.mk (hbox); have n2_ := qd.mk (gw_ (w := w) hg); have n3_ := qd.mk (gw_ (w := w) hg); clear HB; have HB := n0_; have BK108 := n1_; have GW108 := n2_; have GE108 := n3_; clear n0_ n1_ n2_ n3_; clear hb hbox hg; obtain ⟨cz14_0, cz14_1, cz14_2, cz14_3, cz14_4, cz14_5, cz14_6⟩ := bc7_ (w := w13) BK108.out; obtain ⟨fz14_0, fz14_1, fz14_2, fz14_3, fz14_4, fz14_5, fz14_6⟩ := bf7_ BK108.out)); try go_wp2_with (first | ((with_reducible refine qce (N := 6) rfl ?_); (try (refine qfm (by rfl) ?_; dsimp only)); refine qcc ?hg (N := 6) ?hd (cs := #[.string (⟨#[]⟩ : ByteArray), .string (⟨#[]⟩ : ByteArray), .int .i64 0, .int .i64 0, .string (⟨#[]⟩ : ByteArray), .string (⟨#[]⟩ : ByteArray), .slice none 0 0]) (t := 109) ?hr ?_; (case hd => rfl); (case hg => rfl); (case hr => first | (go_simp; done) | (go_simp; rfl)); intro gb108 hg w13 hbox hb; have n0_ := qd.mk (qbd (bw_) hb); have n1_ := qd.mk (hbox); have n2_ := qd.mk (gw_ (w := w) hg); have n3_ := qd.mk (gw_ (w := w) hg); clear HB; have HB := n0_; have BK108 := n1_; have GW108 := n2_; have GE108 := n3_; clear n0_ n1_ n2_ n3_; clear hb hbox hg; obtain ⟨cz14_0, cz14_1, cz14_2, cz14_3, cz14_4, cz14_5, cz14_6⟩ := bc7_ (w := w13) BK108.out; obtain ⟨fz14_0, fz14_1, fz14_2, fz14_3, fz14_4, fz14_5, fz14_6⟩ := bf7_ BK108.out)))
        go_ret
        exact ⟨ew_, bwx_⟩
       rw [if_neg c12] at H
       have c12b0 : decide (20 < (((ql ((qdd l0 x4_1).f8) x5_3).f6).length : Int)) = false := decide_eq_false c12
       have c12b1 : decide (20 < ((ql ((qdd l0 x4_1).f8) x5_3).f6).length) = false := decide_eq_false (by omega)
       clear c12
       by_cases c15 : (wrap64 ((wrap64 ((wrap64 ((((ql ((qdd l0 x4_1).f8) x5_3).f0).size : Int) + (((ql ((qdd l0 x4_1).f8) x5_3).f1).size : Int))) + (((ql ((qdd l0 x4_1).f8) x5_3).f4).size : Int))) + (((ql ((qdd l0 x4_1).f8) x5_3).f5).size : Int))) > 400
       ·rw [if_pos c15] at H
        have c15b0 : decide (400 < (wrap64 ((wrap64 ((wrap64 ((((ql ((qdd l0 x4_1).f8) x5_3).f0).size : Int) + (((ql ((qdd l0 x4_1).f8) x5_3).f1).size : Int))) + (((ql ((qdd l0 x4_1).f8) x5_3).f4).size : Int))) + (((ql ((qdd l0 x4_1).f8) x5_3).f5).size : Int)))) = true := decide_eq_true c15
        clear c15
        obtain rfl := Option.some.inj H
        have p105 : 0 ≤ (x4_1 : Int) := odt_
        have q105 : x4_1 < (l0.length : Int) := odt_
        obtain ⟨ad105, A105_8, c105_8, e105, hx105_0, hx105_1, hx105_2, hx105_3, hx105_4, hx105_5, hx105_6, hx105_7, hx105_8, hl105_8, hi105_8⟩ := qip HR0.out x4_1 p105 q105
        obtain rfl : ad101 = ad105 := (by injection e105)
        replace hx105_0 := bcl_ HB hx105_0
        replace hx105_1 := bcl_ HB hx105_1
        replace hx105_2 := bcl_ HB hx105_2
        replace hx105_3 := bcl_ HB hx105_3
        replace hx105_4 := bcl_ HB hx105_4
        replace hx105_5 := bcl_ HB hx105_5
        replace hx105_6 := bcl_ HB hx105_6
        replace hx105_7 := bcl_ HB hx105_7
        replace hx105_8 := bcl_ HB hx105_8
        have HR105_8 := qd.mk hi105_8
        have HC105_8 := qd.mk hl105_8
        clear hi105_8 hl105_8
        replace p105 := eq_true p105
        replace q105 := eq_true q105
        have p106 : 0 ≤ (x4_1 : Int) := odt_
        have q106 : x4_1 < (l0.length : Int) := odt_
        obtain ⟨ad106, A106_8, c106_8, e106, hx106_0, hx106_1, hx106_2, hx106_3, hx106_4, hx106_5, hx106_6, hx106_7, hx106_8, hl106_8, hi106_8⟩ := qip HR0.out x4_1 p106 q106
        obtain rfl : ad101 = ad106 := (by injection e106)
        replace hx106_0 := bcl_ HB hx106_0
        replace hx106_1 := bcl_ HB hx106_1
        replace hx106_2 := bcl_ HB hx106_2
        replace hx106_3 := bcl_ HB hx106_3
        replace hx106_4 := bcl_ HB hx106_4
        replace hx106_5 := bcl_ HB hx106_5
        replace hx106_6 := bcl_ HB hx106_6
        replace hx106_7 := bcl_ HB hx106_7
        replace hx106_8 := bcl_ HB hx106_8
        have HR106_8 := qd.mk hi106_8
        have HC106_8 := qd.mk hl106_8
        clear hi106_8 hl106_8
        replace p106 := eq_true p106
        replace q106 := eq_true q106
        have ea_ := Option.some.inj (hx105_8.symm.trans hx106_8)
        injection ea_ with ea_ en_ ec_
        subst ea_
        subst ec_
        clear en_
        have p107 : 0 ≤ (x5_3 : Int) := odt_
        have q107 : x5_3 < (((qdd l0 x4_1).f8).length : Int) := odt_
        obtain ⟨ad107, A107_6, c107_6, e107, hx107_0, hx107_1, hx107_2, hx107_3, hx107_4, hx107_5, hx107_6, hl107_6, hi107_6⟩ := qff HR106_8.out x5_3 p107 q107
        cases e107
        replace hx107_0 := bcl_ HB hx107_0
        replace hx107_1 := bcl_ HB hx107_1
        replace hx107_2 := bcl_ HB hx107_2
        replace hx107_3 := bcl_ HB hx107_3
        replace hx107_4 := bcl_ HB hx107_4
        replace hx107_5 := bcl_ HB hx107_5
        replace hx107_6 := bcl_ HB hx107_6
        have HR107_6 := qd.mk hi107_6
        have HC107_6 := qd.mk hl107_6
        clear hi107_6 hl107_6
        replace p107 := eq_true p107
        replace q107 := eq_true q107
        go_wp2_with (first | ((with_reducible refine qce (N := 6) rfl ?_); (try (refine qfm (by rfl) ?_; dsimp only)); refine qcc ?hg (N := 6) ?hd (cs := #[.string (⟨#[]⟩ : ByteArray), .string (⟨#[]⟩ : ByteArray), .int .i64 0, .int .i64 0, .string (⟨#[]⟩ : ByteArray), .string (⟨#[]⟩ : ByteArray), .slice none 0 0]) (t := 109) ?hr ?_; (case hd => rfl); (case hg => rfl); (case hr => first | (go_simp; done) | (go_simp; rfl)); intro gb108 hg w16 hbox hb; have n0_ := qd.mk (qbd (bw_) hb); have n1_ := qd.mk (hbox); have n2_ := qd.mk (gw_ (w := w) hg); have n3_ := qd.mk (gw_ (w := w) hg); clear HB; have HB := n0_; have BK108 := n1_; have GW108 := n2_; have GE108 := n3_; clear n0_ n1_ n2_ n3_; clear hb hbox hg; obtain ⟨cz17_0, cz17_1, cz17_2, cz17_3, cz17_4, cz17_5, cz17_6⟩ := bc7_ (w := w16) BK108.out; obtain ⟨fz17_0, fz17_1, fz17_2, fz17_3, fz17_4, fz17_5, fz17_6⟩ := bf7_ BK108.out))
        repeat (go_quiet (first | ((with_reducible refine qce (N := 6) rfl ?_); (try (refine qfm (by rfl) ?_; dsimp only)); refine qcc ?hg (N := 6) ?hd (cs := #[.string (⟨#[]⟩ : ByteArray), .string (⟨#[]⟩ : ByteArray), .int .i64 0, .int .i64 0, .string (⟨#[]⟩ : ByteArray), .string (⟨#[]⟩ : ByteArray), .slice none 0 0]) (t := 109) ?hr ?_; (case hd => rfl); (case hg => rfl); (case hr => first | (go_simp; done) | (go_simp; rfl)); intro gb108 hg w16 hbox hb; have n0_ := qd.mk (qbd (bw_) hb); have n1_ := qd.mk (hbox); have n2_ := qd.mk (gw_ (w := w) hg); have n3_ := qd.mk (gw_ (w := w) hg); clear HB; have HB := n0_; have BK108 := n1_; have GW108 := n2_; have GE108 := n3_; clear n0_ n1_ n2_ n3_; clear hb hbox hg; obtain ⟨cz17_0, cz17_1, cz17_2, cz17_3, cz17_4, cz17_5, cz17_6⟩ := bc7_ (w := w16) BK108.out; obtain ⟨fz17_0, fz17_1, fz17_2, fz17_3, fz17_4, fz17_5, fz17_6⟩ := bf7_ BK108.out)); try go_wp2_with (first | ((with_reducible refine qce (N := 6) rfl ?_); (try (refine qfm (by rfl) ?_; dsimp only)); refine qcc ?hg (N := 6) ?hd (cs := #[.string (⟨#[]⟩ : ByteArray), .string (⟨#[]⟩ : ByteArray), .int .i64 0, .int .i64 0, .string (⟨#[]⟩ : ByteArray), .string (⟨#[]⟩ : ByteArray), .slice none 0 0]) (t := 109) ?hr ?_; (case hd => rfl); (case hg => rfl); (case hr => first | (go_simp; done) | (go_simp; rfl)); intro gb108 hg w16 hbox hb; have n0_ := qd.mk (qbd (bw_) hb); have n1_ := qd.mk (hbox); have n2_ := qd.mk (gw_ (w := w) hg); have n3_ := qd.mk (gw_ (w := w) hg); clear HB; have HB := n0_; have BK108 := n1_; have GW108 := n2_; have GE108 := n3_; clear n0_ n1_ n2_ n3_; clear hb hbox hg; obtain ⟨cz17_0, cz17_1, cz17_2, cz17_3, cz17_4, cz17_5, cz17_6⟩ := bc7_ (w := w16) BK108.out; obtain ⟨fz17_0, fz17_1, fz17_2, fz17_3, fz17_4, fz17_5, fz17_6⟩ := bf7_ BK108.out)))
        go_ret
        exact ⟨ew_, bwx_⟩
       rw [if_neg c15] at H
       have c15b0 : decide (400 < (wrap64 ((wrap64 ((wrap64 ((((ql ((qdd l0 x4_1).f8) x5_3).f0).size : Int) + (((ql ((qdd l0 x4_1).f8) x5_3).f1).size : Int))) + (((ql ((qdd l0 x4_1).f8) x5_3).f4).size : Int))) + (((ql ((qdd l0 x4_1).f8) x5_3).f5).size : Int)))) = false := decide_eq_false c15
       clear c15
       have H' := qd.mk H
       clear H
       have p105 : 0 ≤ (x4_1 : Int) := odt_
       have q105 : x4_1 < (l0.length : Int) := odt_
       obtain ⟨ad105, A105_8, c105_8, e105, hx105_0, hx105_1, hx105_2, hx105_3, hx105_4, hx105_5, hx105_6, hx105_7, hx105_8, hl105_8, hi105_8⟩ := qip HR0.out x4_1 p105 q105
       obtain rfl : ad101 = ad105 := (by injection e105)
       replace hx105_0 := bcl_ HB hx105_0
       replace hx105_1 := bcl_ HB hx105_1
       replace hx105_2 := bcl_ HB hx105_2
       replace hx105_3 := bcl_ HB hx105_3
       replace hx105_4 := bcl_ HB hx105_4
       replace hx105_5 := bcl_ HB hx105_5
       replace hx105_6 := bcl_ HB hx105_6
       replace hx105_7 := bcl_ HB hx105_7
       replace hx105_8 := bcl_ HB hx105_8
       have HR105_8 := qd.mk hi105_8
       have HC105_8 := qd.mk hl105_8
       clear hi105_8 hl105_8
       replace p105 := eq_true p105
       replace q105 := eq_true q105
       have p106 : 0 ≤ (x4_1 : Int) := odt_
       have q106 : x4_1 < (l0.length : Int) := odt_
       obtain ⟨ad106, A106_8, c106_8, e106, hx106_0, hx106_1, hx106_2, hx106_3, hx106_4, hx106_5, hx106_6, hx106_7, hx106_8, hl106_8, hi106_8⟩ := qip HR0.out x4_1 p106 q106
       obtain rfl : ad101 = ad106 := (by injection e106)
       replace hx106_0 := bcl_ HB hx106_0
       replace hx106_1 := bcl_ HB hx106_1
       replace hx106_2 := bcl_ HB hx106_2
       replace hx106_3 := bcl_ HB hx106_3
       replace hx106_4 := bcl_ HB hx106_4
       replace hx106_5 := bcl_ HB hx106_5
       replace hx106_6 := bcl_ HB hx106_6
       replace hx106_7 := bcl_ HB hx106_7
       replace hx106_8 := bcl_ HB hx106_8
       have HR106_8 := qd.mk hi106_8
       have HC106_8 := qd.mk hl106_8
       clear hi106_8 hl106_8
       replace p106 := eq_true p106
       replace q106 := eq_true q106
       have ea_ := Option.some.inj (hx105_8.symm.trans hx106_8)
       injection ea_ with ea_ en_ ec_
       subst ea_
       subst ec_
       clear en_
       have p107 : 0 ≤ (x5_3 : Int) := odt_
       have q107 : x5_3 < (((qdd l0 x4_1).f8).length : Int) := odt_
       obtain ⟨ad107, A107_6, c107_6, e107, hx107_0, hx107_1, hx107_2, hx107_3, hx107_4, hx107_5, hx107_6, hl107_6, hi107_6⟩ := qff HR106_8.out x5_3 p107 q107
       cases e107
       replace hx107_0 := bcl_ HB hx107_0
       replace hx107_1 := bcl_ HB hx107_1
       replace hx107_2 := bcl_ HB hx107_2
       replace hx107_3 := bcl_ HB hx107_3
       replace hx107_4 := bcl_ HB hx107_4
       replace hx107_5 := bcl_ HB hx107_5
       replace hx107_6 := bcl_ HB hx107_6
       have HR107_6 := qd.mk hi107_6
       have HC107_6 := qd.mk hl107_6
       clear hi107_6 hl107_6
       replace p107 := eq_true p107
       replace q107 := eq_true q107
       go_wp2_with (first | ((with_reducible refine qce (N := 6) rfl ?_); (try (refine qfm (by rfl) ?_; dsimp only)); refine qcc ?hg (N := 6) ?hd (cs := #[.string (⟨#[]⟩ : ByteArray), .string (⟨#[]⟩ : ByteArray), .int .i64 0, .int .i64 0, .string (⟨#[]⟩ : ByteArray), .string (⟨#[]⟩ : ByteArray), .slice none 0 0]) (t := 109) ?hr ?_; (case hd => rfl); (case hg => rfl); (case hr => first | (go_simp; done) | (go_simp; rfl)); intro gb108 hg w18 hbox hb; have n0_ := qd.mk (qbd (bw_) hb); have n1_ := qd.mk (hbox); have n2_ := qd.mk (gw_ (w := w) hg); have n3_ := qd.mk (gw_ (w := w) hg); clear HB; have HB := n0_; have BK108 := n1_; have GW108 := n2_; have GE108 := n3_; clear n0_ n1_ n2_ n3_; clear hb hbox hg; obtain ⟨cz19_0, cz19_1, cz19_2, cz19_3, cz19_4, cz19_5, cz19_6⟩ := bc7_ (w := w18) BK108.out; obtain ⟨fz19_0, fz19_1, fz19_2, fz19_3, fz19_4, fz19_5, fz19_6⟩ := bf7_ BK108.out))
       repeat (go_quiet (first | ((with_reducible refine qce (N := 6) rfl ?_); (try (refine qfm (by rfl) ?_; dsimp only)); refine qcc ?hg (N := 6) ?hd (cs := #[.string (⟨#[]⟩ : ByteArray), .string (⟨#[]⟩ : ByteArray), .int .i64 0, .int .i64 0, .string (⟨#[]⟩ : ByteArray), .string (⟨#[]⟩ : ByteArray), .slice none 0 0]) (t := 109) ?hr ?_; (case hd => rfl); (case hg => rfl); (case hr => first | (go_simp; done) | (go_simp; rfl)); intro gb108 hg w18 hbox hb; have n0_ := qd.mk (qbd (bw_) hb); have n1_ := qd.mk (hbox); have n2_ := qd.mk (gw_ (w := w) hg); have n3_ := qd.mk (gw_ (w := w) hg); clear HB; have HB := n0_; have BK108 := n1_; have GW108 := n2_; have GE108 := n3_; clear n0_ n1_ n2_ n3_; clear hb hbox hg; obtain ⟨cz19_0, cz19_1, cz19_2, cz19_3, cz19_4, cz19_5, cz19_6⟩ := bc7_ (w := w18) BK108.out; obtain ⟨fz19_0, fz19_1, fz19_2, fz19_3, fz19_4, fz19_5, fz19_6⟩ := bf7_ BK108.out)); try go_wp2_with (first | ((with_reducible refine qce (N := 6) rfl ?_); (try (refine qfm (by rfl) ?_; dsimp only)); refine qcc ?hg (N := 6) ?hd (cs := #[.string (⟨#[]⟩ : ByteArray), .string (⟨#[]⟩ : ByteArray), .int .i64 0, .int .i64 0, .string (⟨#[]⟩ : ByteArray), .string (⟨#[]⟩ : ByteArray), .slice none 0 0]) (t := 109) ?hr ?_; (case hd => rfl); (case hg => rfl); (case hr => first | (go_simp; done) | (go_simp; rfl)); intro gb108 hg w18 hbox hb; have n0_ := qd.mk (qbd (bw_) hb); have n1_ := qd.mk (hbox); have n2_ := qd.mk (gw_ (w := w) hg); have n3_ := qd.mk (gw_ (w := w) hg); clear HB; have HB := n0_; have BK108 := n1_; have GW108 := n2_; have GE108 := n3_; clear n0_ n1_ n2_ n3_; clear hb hbox hg; obtain ⟨cz19_0, cz19_1, cz19_2, cz19_3, cz19_4, cz19_5, cz19_6⟩ := bc7_ (w := w18) BK108.out; obtain ⟨fz19_0, fz19_1, fz19_2, fz19_3, fz19_4, fz19_5, fz19_6⟩ := bf7_ BK108.out)))
       go_roundg k3
       case measure => have := HK1.out; have := HJ4.out; have := HK3.out; omega
       case rel => exact ⟨(wrap64 (x5_3 + 1)), sm_, H', ⟨by have := HK1.out; have := HJ4.out; have := HK3.out; omega⟩, ⟨bwx_⟩⟩
    ·rw [if_neg c3] at H
     have c3b0 : decide (x4_1 < (l0.length : Int)) = false := decide_eq_false c3
     clear c3
     obtain rfl := Option.some.inj H
     go_wp2
     repeat (go_quiet (fail); try go_wp2)
     go_ret
     exact ⟨ew_, bw_⟩
end Go.Proofs.YtppcjoaghlecmaaDoor.P
namespace Go.Proofs.YtppcjoaghlecmaaDoor.P
open Go.RowKit Go.Proofs.YtppcjoaghlecmaaDoorW.PrintWords Go.Proofs.YtppcjoaghlecmaaDoorW.PrintLast Go.Proofs.YtppcjoaghlecmaaDoorW.PrintMore Go.Proofs.YtppcjoaghlecmaaDoor.Op
set_option linter.unusedVariables false
set_option linter.unusedSimpArgs false
def okLn (y : S109) : Prop := y.f0.size ≤ 140737488351232 ∧ y.f1.size ≤ 140737488351232 ∧ y.f4.size ≤ 140737488351232 ∧ y.f5.size ≤ 140737488351232 ∧ y.f6.length ≤ 140737488351232 ∧ ∀ t ∈ y.f6, t.f0.size ≤ 140737488351232 ∧ t.f1.size ≤ 140737488351232
def okEn (x : S29) : Prop := x.f1.size ≤ 140737488351232 ∧ x.f5.size ≤ 140737488351232 ∧ x.f6.size ≤ 140737488351232 ∧ x.f8.length ≤ 140737488351232 ∧ ∀ y ∈ x.f8, okLn y
instance (y : S109) : Decidable (okLn y) := by unfold okLn; exact inferInstance
instance (x : S29) : Decidable (okEn x) := by unfold okEn; exact inferInstance
theorem qjq : reachBytes = 140737488351232 := by decide
theorem fit_okLn {y : S109} (h : fit109 y) : okLn y := by
 obtain ⟨h0, h1, _, _, h4, h5, h6, h7⟩ := h
 unfold okLn
 rw [← qjq]
 exact ⟨h0, h1, h4, h5, h6, fun t ht => ⟨(h7 t ht).1, (h7 t ht).2⟩⟩
theorem fit_ok {x : S29} (h : fit29 x) : okEn x := by
 obtain ⟨_, h1, _, _, _, h5, h6, _, h8, h9⟩ := h
 unfold okEn
 rw [← qjq]
 exact ⟨h1, h5, h6, h8, fun y hy => fit_okLn (h9 y hy)⟩
def lnB (y : S109) : Bool := decide (20 < y.f6.length) || decide (400 < y.f0.size + y.f1.size + y.f4.size + y.f5.size)
def lgs : Nat → List S29 → Bool
 | _, [] => false
 | n, x :: r => (decide (400 < n + x.f8.length) || decide (400 < x.f1.size + x.f5.size + x.f6.size)) || (x.f8.any lnB || lgs (n + x.f8.length) r)
def largeB (l : List S29) : Bool := decide (40 < l.length) || lgs 0 l
theorem rd29 {l : List S29} {i : Nat} (h : i < l.length) : qdd l (i : Int) = l[i] := by
 simp [qdd, h]
theorem ln_f (y : S109) (h : okLn y) : (if ((y.f6.length : Int) > 20) then (some true : Option Bool) else (if (wrap64 ((wrap64 ((wrap64 ((y.f0.size : Int) + (y.f1.size : Int))) + (y.f4.size : Int))) + (y.f5.size : Int))) > 400 then some true else none)) = if lnB y = true then some true else none := by
 obtain ⟨h0, h1, h4, h5, h6, _⟩ := h
 rw [w64t (x := (y.f0.size : Int) + (y.f1.size : Int)) (by omega) (by omega), w64t (x := (y.f0.size : Int) + (y.f1.size : Int) + (y.f4.size : Int)) (by omega) (by omega), w64t (by omega) (by omega)]
 unfold lnB
 by_cases c1 : 20 < y.f6.length
 ·rw [if_pos (show (y.f6.length : Int) > 20 by omega), decide_eq_true c1, Bool.true_or]; rfl
 ·rw [if_neg (show ¬ (y.f6.length : Int) > 20 by omega), decide_eq_false c1, Bool.false_or]
  by_cases c2 : 400 < y.f0.size + y.f1.size + y.f4.size + y.f5.size
  ·rw [if_pos (show (y.f0.size : Int) + (y.f1.size : Int) + (y.f4.size : Int) + (y.f5.size : Int) > 400 by omega), decide_eq_true c2]; rfl
  ·rw [if_neg (show ¬ (y.f0.size : Int) + (y.f1.size : Int) + (y.f4.size : Int) + (y.f5.size : Int) > 400 by omega), decide_eq_false c2]; rfl
theorem large_l1 (l : List S29) (hl : l.length ≤ 40) (hf : ∀ x ∈ l, okEn x) (i : Nat) (hi : i < l.length) (z : Int) (r : Bool) (hr : Ev (fun k => qbh.l0 k l z ((i + 1 : Nat) : Int)) r) : ∀ (n j : Nat), (l[i]).f8.length - j = n → j ≤ (l[i]).f8.length → Ev (fun k => qbh.l1 k l z (i : Int) (j : Int)) (((l[i]).f8.drop j).any lnB || r) := by
 have hx := hf _ (List.getElem_mem hi)
 have hlen := hx.2.2.2.1
 intro n
 induction n with
 | zero =>
  intro j hn hj
  obtain rfl : j = (l[i]).f8.length := by omega
  refine Ev.step (fun k => qbh.l1.eq_2 _ _ _ _ k) ?_
  have hw : wrap64 ((i : Int) + 1) = ((i + 1 : Nat) : Int) := by rw [w64t (by omega) (by omega)]; omega
  simp only [if_pos (show (0 : Int) ≤ (i : Int) by omega), if_pos (show (i : Int) < (l.length : Int) by omega), rd29 hi, if_neg (show ¬ (((l[i]).f8.length : Int) < ((l[i]).f8.length : Int)) by omega), hw, List.drop_length, List.any_nil, Bool.false_or]
  exact hr
 | succ n ih =>
  intro j hn hj
  have hjl : j < (l[i]).f8.length := by omega
  have hy := hx.2.2.2.2 _ (List.getElem_mem hjl)
  refine Ev.step (fun k => qbh.l1.eq_2 _ _ _ _ k) ?_
  have hw : wrap64 ((j : Int) + 1) = ((j + 1 : Nat) : Int) := by rw [w64t (by omega) (by omega)]; omega
  simp only [if_pos (show (0 : Int) ≤ (i : Int) by omega), if_pos (show (i : Int) < (l.length : Int) by omega), rd29 hi, if_pos (show ((j : Int) < ((l[i]).f8.length : Int)) by omega), if_pos (show (0 : Int) ≤ (j : Int) by omega), rd109 hjl, hw]
  rw [List.drop_eq_getElem_cons hjl, List.any_cons]
  have hL := ln_f _ hy
  have hi' := ih (j + 1) (by omega) (by omega)
  generalize (l[i]).f8[j] = y at hL
  by_cases c1 : (y.f6.length : Int) > 20
  ·simp only [if_pos c1]
   rw [if_pos c1] at hL
   have : lnB y = true := by
    by_cases c : lnB y = true
    ·exact c
    ·rw [if_neg c] at hL; cases hL
   rw [this, Bool.true_or, Bool.true_or]
   exact Ev.now _
  ·simp only [if_neg c1]
   rw [if_neg c1] at hL
   by_cases c2 : wrap64 (wrap64 (wrap64 ((y.f0.size : Int) + (y.f1.size : Int)) + (y.f4.size : Int)) + (y.f5.size : Int)) > 400
   ·simp only [if_pos c2]
    rw [if_pos c2] at hL
    have : lnB y = true := by
     by_cases c : lnB y = true
     ·exact c
     ·rw [if_neg c] at hL; cases hL
    rw [this, Bool.true_or, Bool.true_or]
    exact Ev.now _
   ·simp only [if_neg c2]
    rw [if_neg c2] at hL
    have : lnB y = false := by
     by_cases c : lnB y = true
     ·rw [if_pos c] at hL; cases hL
     ·simpa using c
    rw [this, Bool.false_or]
    exact hi'
theorem large_l0 (l : List S29) (hl : l.length ≤ 40) (hf : ∀ x ∈ l, okEn x) : ∀ (n i z : Nat), l.length - i = n → i ≤ l.length → z ≤ 400 → Ev (fun k => qbh.l0 k l (z : Int) (i : Int)) (lgs z (l.drop i)) := by
 intro n
 induction n with
 | zero =>
  intro i z hn hi hz
  obtain rfl : i = l.length := by omega
  refine Ev.step (fun k => qbh.l0.eq_2 _ _ _ k) ?_
  simp only [if_neg (show ¬ ((l.length : Int) < (l.length : Int)) by omega), List.drop_length, lgs]
  exact Ev.now _
 | succ n ih =>
  intro i z hn hi hz
  have hil : i < l.length := by omega
  have hx := hf _ (List.getElem_mem hil)
  obtain ⟨h1, h5, h6, hlen, _⟩ := hx
  refine Ev.step (fun k => qbh.l0.eq_2 _ _ _ k) ?_
  simp only [if_pos (show ((i : Int) < (l.length : Int)) by omega), if_pos (show (0 : Int) ≤ (i : Int) by omega), rd29 hil]
  rw [w64t (x := (z : Int) + ((l[i]).f8.length : Int)) (by omega) (by omega)]
  rw [w64t (x := ((l[i]).f1.size : Int) + ((l[i]).f5.size : Int)) (by omega) (by omega), w64t (x := ((l[i]).f1.size : Int) + ((l[i]).f5.size : Int) + ((l[i]).f6.size : Int)) (by omega) (by omega)]
  rw [show (z : Int) + ((l[i]).f8.length : Int) = ((z + (l[i]).f8.length : Nat) : Int) by omega]
  rw [List.drop_eq_getElem_cons hil]
  unfold lgs
  have bad : ∀ (z' : Int), Ev (fun k => qbh.j1 k l z' (i : Int) true) true := fun z' => by
   refine Ev.step (fun k => qbh.j1.eq_2 _ _ _ _ k) ?_
   simp only [if_true]
   exact Ev.now _
  by_cases c1 : 400 < z + (l[i]).f8.length
  ·simp only [if_pos (show ((z + (l[i]).f8.length : Nat) : Int) > 400 by omega)]
   rw [decide_eq_true c1, Bool.true_or, Bool.true_or]
   exact bad _
  ·simp only [if_neg (show ¬ ((z + (l[i]).f8.length : Nat) : Int) > 400 by omega)]
   rw [decide_eq_false c1, Bool.false_or]
   by_cases c2 : 400 < (l[i]).f1.size + (l[i]).f5.size + (l[i]).f6.size
   ·rw [decide_eq_true c2, Bool.true_or, decide_eq_true (show ((l[i]).f1.size : Int) + ((l[i]).f5.size : Int) + ((l[i]).f6.size : Int) > 400 by omega)]
    exact bad _
   ·rw [decide_eq_false c2, Bool.false_or, decide_eq_false (show ¬ ((l[i]).f1.size : Int) + ((l[i]).f5.size : Int) + ((l[i]).f6.size : Int) > 400 by omega)]
    refine Ev.step (fun k => qbh.j1.eq_2 _ _ _ _ k) ?_
    simp only [Bool.false_eq_true, if_false]
    have := large_l1 l hl hf i hil ((z + (l[i]).f8.length : Nat) : Int) _ (ih (i + 1) (z + (l[i]).f8.length) (by omega) (by omega) (by omega)) _ 0 rfl (Nat.zero_le _)
    rw [List.drop_zero] at this
    exact this
theorem large_ev (l : List S29) (hf : ∀ x ∈ l, okEn x) : Ev (fun k => qbh.f k l) (largeB l) := by
 unfold qbh.f largeB
 by_cases h : 40 < l.length
 ·simp only [if_pos (show (l.length : Int) > 40 by omega), decide_eq_true h, Bool.true_or]
  exact Ev.now _
 ·simp only [if_neg (show ¬ (l.length : Int) > 40 by omega), decide_eq_false h, Bool.false_or]
  exact large_l0 l (by omega) hf _ 0 0 rfl (Nat.zero_le _) (by omega)
theorem fit_E {x : S29} (h : okEn x) : FitE x := fun y hy => by
 have := (h.2.2.2.2 y hy).2.1
 unfold maxLen
 omega
theorem fit_short {x : S29} (h : okEn x) : qgo x := by
 obtain ⟨h1, h5, h6, h8, h9⟩ := h
 refine ⟨by omega, by omega, by omega, fun y hy => ?_⟩
 obtain ⟨g0, g1, g4, g5, gl, gt⟩ := h9 y hy
 refine ⟨by omega, by omega, by omega, by omega, by omega, fun i hi => ?_⟩
 rw [rd213 hi]
 have := gt _ (List.getElem_mem hi)
 omega
end Go.Proofs.YtppcjoaghlecmaaDoor.P
namespace Go.Proofs.YtppcjoaghlecmaaDoor.P
open Go.RowKit Go.Sort Go.Proofs.YtppcjoaghlecmaaDoorW.PrintWords Go.Proofs.YtppcjoaghlecmaaDoorW.PrintLast Go.Proofs.YtppcjoaghlecmaaDoorW.PrintMore Go.Maps Go.ChangeShapes Go.WideShapes Go.WideMaps Go.Shelf
set_option linter.unusedVariables false
set_option linter.unusedSimpArgs false
theorem large_is (A : Option Addr) (c : Nat) (l : List S29) (b : Bool) (w : World) (h : Kd.C k29 w A l.length l) (hc : l.length ≤ c) (hok : ∀ x ∈ l, okEn x) (hb : largeB l = b) : Calls Tryd.prog 16 #[.slice A l.length c] w fun e w' => e = .returned (.bool b) ∧ Below w.heap.size w w' := by
 obtain ⟨k, hk⟩ := (large_ev l hok).rounds
 rw [hb] at hk
 exact qbh.calls k A c l b w h hc hk
end Go.Proofs.YtppcjoaghlecmaaDoor.P
namespace Go.Proofs.YtppcjoaghlecmaaDoor.P
open Go.RowKit Go.Proofs.YtppcjoaghlecmaaDoorW.PrintWords Go.Proofs.YtppcjoaghlecmaaDoorW.PrintLast Go.Proofs.YtppcjoaghlecmaaDoorW.PrintMore
attribute [local go_sem] qfa qey qft qfs qej qei qez qex
set_option linter.unusedVariables false
set_option linter.unusedSimpArgs false
theorem eqA112 (d : Nat) (w : World) (x0 y0 : ByteArray) (x1 y1 : ByteArray) (x2 y2 : ByteArray) (x3 y3 : ByteArray) (x4 y4 : ByteArray) (x5 y5 : Int) (x6 y6 : Int) :
  (Op.equalIn (d + 3) 112 (.agg #[.string x0, .string x1, .string x2, .string x3, .string x4, .int .i64 x5, .int .i64 x6]) (.agg #[.string y0, .string y1, .string y2, .string y3, .string y4, .int .i64 y5, .int .i64 y6])).run Tryd.prog w = .ok ((x0.toList == y0.toList && (x1.toList == y1.toList && (x2.toList == y2.toList && (x3.toList == y3.toList && (x4.toList == y4.toList))))) && (x5 == y5 && (x6 == y6))) w := by
 refine eqA_of Tryd.underlying112 (by kernel_rfl) ?_
 refine qix (by rfl) (by go_simp) (by go_simp) (eqA40 (d + 0) w _ _ _ _ _ _ _ _ _ _) ?_
 refine qix (by rfl) (by go_simp; rfl) (by go_simp; rfl) (by go_simp) ?_
 exact eqf_last (by rfl) (by go_simp; rfl) (by go_simp; rfl) (by go_simp)
section
attribute [local go_sem high] eqA112
def qcj.l0 : Nat → List (S112) → List (S112) → Int → Option (Bool)
 | 0, _, _, _ => none
 | k + 1, x0, x1, x5 => if x5 < (x0.length : Int) then (if 0 ≤ x5 then (if x5 < (x1.length : Int) then (if ((!((((qp x0 x5).f0.f0).toList) == (((qp x1 x5).f0.f0).toList)) || (!((((qp x0 x5).f0.f1).toList) == (((qp x1 x5).f0.f1).toList)) || (!((((qp x0 x5).f0.f2).toList) == (((qp x1 x5).f0.f2).toList)) || (!((((qp x0 x5).f0.f3).toList) == (((qp x1 x5).f0.f3).toList)) || (!((((qp x0 x5).f0.f4).toList) == (((qp x1 x5).f0.f4).toList))))))) || (!(((qp x0 x5).f1) == ((qp x1 x5).f1)) || (!(((qp x0 x5).f2) == ((qp x1 x5).f2))))) = true then (some false) else (qcj.l0 k x0 x1 (wrap64 (x5 + 1)))) else (none)) else (none)) else (some true)
def qcj.f (k : Nat) (l0 : List (S112)) (l1 : List (S112)) : Option (Bool) := if (l0.length : Int) = (l1.length : Int) then (qcj.l0 k l0 l1 0) else (some false)
set_option maxHeartbeats 8000000 in
set_option maxRecDepth 100000 in
theorem qcj.calls (k : Nat) (A0 : Option Addr) (c0 : Nat) (l0 : List (S112)) (A1 : Option Addr) (c1 : Nat) (l1 : List (S112)) (r : Bool) (w : World) (hr0 : Kd.C k112 w A0 l0.length l0) (hc0 : l0.length ≤ c0) (hr1 : Kd.C k112 w A1 l1.length l1) (hc1 : l1.length ≤ c1) (h : qcj.f k l0 l1 = some r) :
  Calls Tryd.prog 21 #[.slice A0 l0.length c0, .slice A1 l1.length c1] w fun e w' => e = .returned (.bool r) ∧ qcl w w' := by
 have hu112 := Tryd.underlying112
 have HR0 := qd.mk hr0
 have HC0 := qd.mk hc0
 clear hr0 hc0
 have HR1 := qd.mk hr1
 have HC1 := qd.mk hc1
 clear hr1 hc1
 have H : (if (l0.length : Int) = (l1.length : Int) then (qcj.l0 k l0 l1 0) else (some false)) = some r := h
 clear h
 by_cases c3 : (l0.length : Int) = (l1.length : Int)
 ·rw [if_pos c3] at H
  have c3b0 : ((l0.length : Int) == (l1.length : Int)) = true := beq_iff_eq.mpr c3
  have c3b1 : ((l0.length : Int) != (l1.length : Int)) = false := bne_eq_false_iff_eq.mpr c3
  have c3b2 : (l0.length == l1.length) = true := by first | simpa using c3 | (simp at c3 ⊢; omega)
  clear c3
  have H' := qd.mk H
  clear H
  go_enter Tryd.func21, Tryd.ntmps21
  go_wp2
  repeat (go_quiet (fail); try go_wp2)
  go_loopg [5] k (fun kq v5 w' => ∃ (x5_1 : Int), v5 = .int .i64 x5_1 ∧ qd (qcj.l0 kq l0 l1 x5_1 = some r) ∧ qd (kq ≤ k) ∧ qcl w w')
  case atStart => exact ⟨(0), sm_, H', ⟨Nat.le_refl _⟩, dn_⟩
  clear H'
  try clear c1
  try clear c2
  try clear p2
  try clear c3
  try clear c3b0
  try clear c3b1
  try clear c3b2
  obtain ⟨x5_1, rfl, HA, HK1, ⟨m1, rfl⟩⟩ := hrel
  cases gk with
  | zero => exact absurd HA.out (by simp [qcj.l0])
  | succ k1 =>
   have H := HA.out
   clear HA
   simp only [qcj.l0] at H
   by_cases c4 : x5_1 < (l0.length : Int)
   rotate_left
   ·rw [if_neg c4] at H
    have c4b0 : decide (x5_1 < (l0.length : Int)) = false := decide_eq_false c4
    clear c4
    obtain rfl := Option.some.inj H
    go_wp2
    repeat (go_quiet (fail); try go_wp2)
    go_ret
    exact ⟨sm_, dn_⟩
   rw [if_pos c4] at H
   have c4b0 : decide (x5_1 < (l0.length : Int)) = true := decide_eq_true c4
   clear c4
   by_cases c5 : 0 ≤ x5_1
   rotate_left
   ·rw [if_neg c5] at H
    exact absurd H (by simp)
   rw [if_pos c5] at H
   have c5b0 : decide (0 ≤ x5_1) = true := decide_eq_true c5
   clear c5
   by_cases c6 : x5_1 < (l1.length : Int)
   rotate_left
   ·rw [if_neg c6] at H
    exact absurd H (by simp)
   rw [if_pos c6] at H
   have c6b0 : decide (x5_1 < (l1.length : Int)) = true := decide_eq_true c6
   clear c6
   by_cases c7 : ((!((((qp l0 x5_1).f0.f0).toList) == (((qp l1 x5_1).f0.f0).toList)) || (!((((qp l0 x5_1).f0.f1).toList) == (((qp l1 x5_1).f0.f1).toList)) || (!((((qp l0 x5_1).f0.f2).toList) == (((qp l1 x5_1).f0.f2).toList)) || (!((((qp l0 x5_1).f0.f3).toList) == (((qp l1 x5_1).f0.f3).toList)) || (!((((qp l0 x5_1).f0.f4).toList) == (((qp l1 x5_1).f0.f4).toList))))))) || (!(((qp l0 x5_1).f1) == ((qp l1 x5_1).f1)) || (!(((qp l0 x5_1).f2) == ((qp l1 x5_1).f2))))) = true
   ·rw [if_pos c7] at H
    have c7b0 : ((!((((qp l0 x5_1).f0.f0).toList) == (((qp l1 x5_1).f0.f0).toList)) || (!((((qp l0 x5_1).f0.f1).toList) == (((qp l1 x5_1).f0.f1).toList)) || (!((((qp l0 x5_1).f0.f2).toList) == (((qp l1 x5_1).f0.f2).toList)) || (!((((qp l0 x5_1).f0.f3).toList) == (((qp l1 x5_1).f0.f3).toList)) || (!((((qp l0 x5_1).f0.f4).toList) == (((qp l1 x5_1).f0.f4).toList))))))) || (!(((qp l0 x5_1).f1) == ((qp l1 x5_1).f1)) || (!(((qp l0 x5_1).f2) == ((qp l1 x5_1).f2))))) = true := c7
    clear c7
    obtain rfl := Option.some.inj H
    have p166 : 0 ≤ (x5_1 : Int) := odt_
    have q166 : x5_1 < (l0.length : Int) := odt_
    obtain ⟨ad166, e166, hx166_0, hx166_1, hx166_2, hx166_3, hx166_4, hx166_5, hx166_6⟩ := qek HR0.out x5_1 p166 q166
    cases e166
    replace p166 := eq_true p166
    replace q166 := eq_true q166
    have p167 : 0 ≤ (x5_1 : Int) := odt_
    have q167 : x5_1 < (l1.length : Int) := odt_
    obtain ⟨ad167, e167, hx167_0, hx167_1, hx167_2, hx167_3, hx167_4, hx167_5, hx167_6⟩ := qek HR1.out x5_1 p167 q167
    cases e167
    replace p167 := eq_true p167
    replace q167 := eq_true q167
    go_wp2
    repeat (go_quiet (fail); try go_wp2)
    go_ret
    exact ⟨sm_, dn_⟩
   rw [if_neg c7] at H
   have c7b0 : ((!((((qp l0 x5_1).f0.f0).toList) == (((qp l1 x5_1).f0.f0).toList)) || (!((((qp l0 x5_1).f0.f1).toList) == (((qp l1 x5_1).f0.f1).toList)) || (!((((qp l0 x5_1).f0.f2).toList) == (((qp l1 x5_1).f0.f2).toList)) || (!((((qp l0 x5_1).f0.f3).toList) == (((qp l1 x5_1).f0.f3).toList)) || (!((((qp l0 x5_1).f0.f4).toList) == (((qp l1 x5_1).f0.f4).toList))))))) || (!(((qp l0 x5_1).f1) == ((qp l1 x5_1).f1)) || (!(((qp l0 x5_1).f2) == ((qp l1 x5_1).f2))))) = false := by simpa using c7
   clear c7
   have H' := qd.mk H
   clear H
   have p166 : 0 ≤ (x5_1 : Int) := odt_
   have q166 : x5_1 < (l0.length : Int) := odt_
   obtain ⟨ad166, e166, hx166_0, hx166_1, hx166_2, hx166_3, hx166_4, hx166_5, hx166_6⟩ := qek HR0.out x5_1 p166 q166
   cases e166
   replace p166 := eq_true p166
   replace q166 := eq_true q166
   have p167 : 0 ≤ (x5_1 : Int) := odt_
   have q167 : x5_1 < (l1.length : Int) := odt_
   obtain ⟨ad167, e167, hx167_0, hx167_1, hx167_2, hx167_3, hx167_4, hx167_5, hx167_6⟩ := qek HR1.out x5_1 p167 q167
   cases e167
   replace p167 := eq_true p167
   replace q167 := eq_true q167
   go_wp2
   repeat (go_quiet (fail); try go_wp2)
   go_roundg k1
   case measure => have := HK1.out; omega
   case rel => exact ⟨(wrap64 (x5_1 + 1)), sm_, H', ⟨by have := HK1.out; omega⟩, dn_⟩
 ·rw [if_neg c3] at H
  have c3b0 : ((l0.length : Int) == (l1.length : Int)) = false := beq_eq_false_iff_ne.mpr c3
  have c3b1 : ((l0.length : Int) != (l1.length : Int)) = true := bne_iff_ne.mpr c3
  have c3b2 : (l0.length == l1.length) = false := by first | simpa using c3 | (simp at c3 ⊢; omega)
  obtain rfl := Option.some.inj H
  go_enter Tryd.func21, Tryd.ntmps21
  go_wp2
  repeat (go_quiet (fail); try go_wp2)
  go_ret
  exact ⟨sm_, dn_⟩
end
end Go.Proofs.YtppcjoaghlecmaaDoor.P
namespace Go.Proofs.YtppcjoaghlecmaaDoor.P
open Go.RowKit Go.Sort Go.Proofs.YtppcjoaghlecmaaDoorW.PrintWords Go.Proofs.YtppcjoaghlecmaaDoorW.PrintLast Go.Proofs.YtppcjoaghlecmaaDoor.Op
set_option linter.unusedVariables false
set_option linter.unusedSimpArgs false
theorem same_l0 (l : List S112) (hl : l.length ≤ 1000000) : ∀ (n i : Nat), l.length - i = n → i ≤ l.length → Ev (fun k => qcj.l0 k l l (i : Int)) true := by
 intro n
 induction n with
 | zero =>
  intro i hn hi
  refine Ev.step (fun k => qcj.l0.eq_2 _ _ _ k) ?_
  simp only [if_neg (show ¬ ((i : Int) < (l.length : Int)) by omega)]
  exact Ev.now _
 | succ n ih =>
  intro i hn hi
  have hil : i < l.length := by omega
  have hw : wrap64 ((i : Int) + 1) = ((i + 1 : Nat) : Int) := by rw [w64 (by omega) (by omega)]; omega
  refine Ev.step (fun k => qcj.l0.eq_2 _ _ _ k) ?_
  simp only [if_pos (show ((i : Int) < (l.length : Int)) by omega), if_pos (show (0 : Int) ≤ (i : Int) by omega), hw, BEq.rfl, Bool.not_true, Bool.or_false, Bool.false_eq_true, if_false]
  exact ih (i + 1) (by omega) (by omega)
theorem same_ev (l : List S112) (hl : l.length ≤ 1000000) : Ev (fun k => qcj.f k l l) true := by
 unfold qcj.f
 simp only [if_true]
 exact same_l0 l hl _ 0 rfl (Nat.zero_le _)
end Go.Proofs.YtppcjoaghlecmaaDoor.P
namespace Go.Proofs.YtppcjoaghlecmaaDoor.P
open Go.RowKit Go.Sort Go.Proofs.YtppcjoaghlecmaaDoorW.PrintWords Go.Proofs.YtppcjoaghlecmaaDoorW.PrintLast Go.Proofs.YtppcjoaghlecmaaDoorW.PrintMore Go.Maps Go.ChangeShapes Go.WideShapes Go.WideMaps Go.Shelf
set_option linter.unusedVariables false
set_option linter.unusedSimpArgs false
structure Sl (w : World) (A : Option Addr) (n c : Nat) (l : List S112) : Prop where
 len : l.length = n
 le : n ≤ c
 v : Kd.V k112 112 w 0 (fun _ => True) (.slice A n c) l
theorem Sl.of {w : World} {base : Nat} {ok : Nat → Prop} {v : Value} {l : List S112} (h : Kd.R k112 112 w base ok v l) : ∃ A c, v = .slice A l.length c ∧ Sl w A l.length c l := by
 obtain ⟨A, c, rfl, hc, hC⟩ := Kd.qhi h
 exact ⟨A, c, rfl, rfl, hc, Kd.V_mono (Kd.R_V h) (fun _ _ => trivial)⟩
theorem Sl.below {w w' : World} {A : Option Addr} {n c : Nat} {l : List S112} (h : Sl w A n c l) (hb : Below w.heap.size w w') : Sl w' A n c l := ⟨h.len, h.le, Kd.V_below h.v hb⟩
theorem Sl.C {w : World} {A : Option Addr} {n c : Nat} {l : List S112} (h : Sl w A n c l) : Kd.C k112 w A l.length l := by
 have := (Kd.V_reads' h.v).2.2
 exact this
theorem same_is {w : World} {A B : Option Addr} {n c n2 c2 : Nat} {l : List S112} (h : Sl w A n c l) (h2 : Sl w B n2 c2 l) (hl : l.length ≤ 1000000) :
  Calls Tryd.prog 21 #[.slice A n c, .slice B n2 c2] w fun e w' => e = .returned (.bool true) ∧ Below w.heap.size w w' := by
 obtain ⟨k, hk⟩ := (same_ev l hl).rounds
 have e1 := h.len
 have e2 := h2.len
 subst e1 e2
 refine (qcj.calls k A c l B c2 l true w h.C h.le h2.C h2.le hk).mono ?_
 rintro e w' ⟨he, hd⟩
 exact ⟨he, hd.below⟩
theorem one_C29 (W : World) (x : S29) (A : Option Addr) (c : Nat) (hC : Kd.C k109 W A x.f8.length x.f8) (hc : x.f8.length ≤ c) : Kd.C k29 (W.alloc (.cells #[.int .i64 x.f0, .string x.f1, .int .i64 x.f2, .int .i64 x.f3, .int .i64 x.f4, .string x.f5, .string x.f6, .int .i64 x.f7, .slice A x.f8.length c] 29)) (some ⟨W.heap.size, 0, none⟩) 1 [x] := by
 refine ⟨rfl, by omega, fun _ => ⟨_, rfl, fun j p hj => ?_⟩⟩
 have hj0 : j = 0 := by
  have := (List.getElem?_eq_some_iff.1 hj).1
  simpa using this
 subst hj0
 obtain rfl : x = p := by simpa using hj
 refine ⟨_, rfl, k29_mk _ x hc (Kd.qco hC _), fun i u hi => ?_⟩
 rw [Go.Proofs.YtppcjoaghlecmaaDoorW.PrintWords.add_plain, Nat.zero_mul, Nat.zero_add]
 refine (qj (qdr W _) i).trans ?_
 rw [← hi]
 exact List.getElem?_toArray.symm ▸ rfl
structure NilM (w0 w : World) (x : S29) (A : Option Addr) (c : Nat) (q : Qy) (key : S40) (bx bq bk : Nat) : Prop where
 bx : w.heap[bx]? = some (.cells #[.int .i64 x.f0, .string x.f1, .int .i64 x.f2, .int .i64 x.f3, .int .i64 x.f4, .string x.f5, .string x.f6, .int .i64 x.f7, .slice A x.f8.length c] 29 (0, 0))
 bq : w.heap[bq]? = some (.cells #[.string q.e, .int .i64 q.a, .int .i64 q.z, .int .i64 q.b] 24 (0, 0))
 bk : w.heap[bk]? = some (.cells #[.string key.f0, .string key.f1, .string key.f2, .string key.f3, .string key.f4] 40 (0, 0))
 bel : Below w0.heap.size w0 w
theorem NilM.below {w0 w w' : World} {x : S29} {A : Option Addr} {c : Nat} {q : Qy} {key : S40} {bx bq bk : Nat} (h : NilM w0 w x A c q key bx bq bk) (hb : Below w.heap.size w w') : NilM w0 w' x A c q key bx bq bk :=
 ⟨qcg h.bx hb, qcg h.bq hb, qcg h.bk hb, qch h.bel h.bel.size hb⟩
instance (n : Int) : Decidable (qdf n) := by unfold qdf; exact inferInstance
end Go.Proofs.YtppcjoaghlecmaaDoor.P
namespace Go.Proofs.YtppcjoaghlecmaaDoor.P
open Go.RowKit Go.Proofs.YtppcjoaghlecmaaDoorW.PrintWords Go.Proofs.YtppcjoaghlecmaaDoorW.PrintLast Go.Proofs.YtppcjoaghlecmaaDoorW.PrintMore
attribute [local go_sem] qfa qey qft qfs qej qei qez qex
set_option linter.unusedVariables false
set_option linter.unusedSimpArgs false
def qea.f (k : Nat) (a0_0 : Int) (a0_1 : ByteArray) (a0_2 : Int) (a0_3 : Int) (a0_4 : Int) (a0_5 : ByteArray) (a0_6 : ByteArray) (a0_7 : Int) (l0_8 : List (S109)) : Option ((List (S112)) × Int) := (qbx.f k a0_0 a0_1 a0_2 a0_3 a0_4 a0_5 a0_6 a0_7 l0_8).bind fun bt304 => (if bt304.2 = 0 then ((qbk.f k a0_0 a0_1 a0_2 a0_3 a0_4 a0_5 a0_6 a0_7 l0_8).bind fun t306 => ((qy.f k t306).bind fun bt309 => (some (bt309.1, bt309.2)))) else (some (([] : List (S112)), bt304.2)))
set_option maxHeartbeats 8000000 in
set_option maxRecDepth 100000 in
theorem qea.calls (k : Nat) (a0_0 : Int) (a0_1 : ByteArray) (a0_2 : Int) (a0_3 : Int) (a0_4 : Int) (a0_5 : ByteArray) (a0_6 : ByteArray) (a0_7 : Int) (A0_8 : Option Addr) (c0_8 : Nat) (l0_8 : List (S109)) (r1 : List (S112)) (r2 : Int) (w : World) (hr0_8 : Kd.C k109 w A0_8 l0_8.length l0_8) (hc0_8 : l0_8.length ≤ c0_8) (h : qea.f k a0_0 a0_1 a0_2 a0_3 a0_4 a0_5 a0_6 a0_7 l0_8 = some (r1, r2)) :
  Calls Tryd.prog 26 #[.agg #[.int .i64 a0_0, .string a0_1, .int .i64 a0_2, .int .i64 a0_3, .int .i64 a0_4, .string a0_5, .string a0_6, .int .i64 a0_7, .slice A0_8 l0_8.length c0_8]] w fun e w' => ∃ v0_ : Value, e = .returned (.tuple #[v0_, .int .i64 r2]) ∧ Kd.R k112 112 w' w.heap.size (fun _ => True) v0_ r1 ∧ Below w.heap.size w w' := by
 have hu29 := Tryd.underlying29
 have HR0_8 := qd.mk hr0_8
 have HC0_8 := qd.mk hc0_8
 clear hr0_8 hc0_8
 have HB := qd.mk (Below.refl w.heap.size w)
 have H : ((qbx.f k a0_0 a0_1 a0_2 a0_3 a0_4 a0_5 a0_6 a0_7 l0_8).bind fun bt304 => (if bt304.2 = 0 then ((qbk.f k a0_0 a0_1 a0_2 a0_3 a0_4 a0_5 a0_6 a0_7 l0_8).bind fun t306 => ((qy.f k t306).bind fun bt309 => (some (bt309.1, bt309.2)))) else (some (([] : List (S112)), bt304.2)))) = some (r1, r2) := h
 clear h
 replace H := Option.bind_eq_some_iff.mp H
 obtain ⟨⟨t304, t305⟩, A20, H⟩ := H
 try dsimp only at H
 have A2 := qd.mk A20
 clear A20
 by_cases c3 : t305 = 0
 ·rw [if_pos c3] at H
  have c3b0 : (t305 == 0) = true := beq_iff_eq.mpr c3
  have c3b1 : (t305 != 0) = false := bne_eq_false_iff_eq.mpr c3
  clear c3
  replace H := Option.bind_eq_some_iff.mp H
  obtain ⟨t306, A40, H⟩ := H
  replace H : ((qy.f k t306).bind fun bt309 => (some (bt309.1, bt309.2))) = some (r1, r2) := H
  have A4 := qd.mk A40
  clear A40
  replace H := Option.bind_eq_some_iff.mp H
  obtain ⟨⟨t309, t310⟩, A50, H⟩ := H
  replace H : (some (t309, t310)) = some (r1, r2) := H
  have A5 := qd.mk A50
  clear A50
  simp only [Option.some.injEq, Prod.mk.injEq] at H
  obtain ⟨rfl, rfl⟩ := H
  go_enter Tryd.func26, Tryd.ntmps26
  go_wp2_with (first | ((with_reducible refine qce (N := 1) rfl ?_); refine qcc ?hg (N := 1) ?hd (cs := #[.int .i64 a0_0, .string a0_1, .int .i64 a0_2, .int .i64 a0_3, .int .i64 a0_4, .string a0_5, .string a0_6, .int .i64 a0_7, .slice A0_8 l0_8.length c0_8]) (t := 29) ?hr ?_; (case hd => rfl); (case hg => rfl); (case hr => first | (go_simp; done) | (go_simp; rfl)); intro gb303 hg w6 hbox hb; have n0_ := qd.mk (qbd (bw_) hb); have n1_ := qd.mk (hbox); have n2_ := qd.mk (gw_ (w := w) hg); have n3_ := qd.mk (gw_ (w := w) hg); clear HB; have HB := n0_; have BK303 := n1_; have GW303 := n2_; have GE303 := n3_; clear n0_ n1_ n2_ n3_; clear hb hbox hg; obtain ⟨cz7_0, cz7_1, cz7_2, cz7_3, cz7_4, cz7_5, cz7_6, cz7_7, cz7_8⟩ := bc9_ (w := w6) BK303.out; obtain ⟨fz7_0, fz7_1, fz7_2, fz7_3, fz7_4, fz7_5, fz7_6, fz7_7, fz7_8⟩ := bf9_ BK303.out) | ((with_reducible refine qbg (f := 53) rfl ?_); refine qcm (some 8) rfl rfl Tryd.func53 (by kernel_rfl) rfl #[.agg #[.int .i64 a0_0, .string a0_1, .int .i64 a0_2, .int .i64 a0_3, .int .i64 a0_4, .string a0_5, .string a0_6, .int .i64 a0_7, .slice A0_8 l0_8.length c0_8]] rfl ml_ ?_; (with_reducible refine (qbx.calls k a0_0 a0_1 a0_2 a0_3 a0_4 a0_5 a0_6 a0_7 _ _ l0_8 t304 t305 _ ?side1 ?side2 A2.out).mono ?_); (case side1 => repeat (first | exact (Kd.qcd HR0_8.out HB.out) | (with_reducible refine Kd.qco ?_ _) | (with_reducible refine Kd.qcs ?_ _) | (with_reducible refine Kd.qdk ?_))); (case side2 => exact HC0_8.out); rintro e w8 ⟨rfl, hb⟩; refine ⟨_, rfl, ?_⟩; have n0_ := qd.mk (bb_ BK303 hb); have n1_ := qd.mk (qbd (bwx_) hb); clear BK303; clear HB; have BK303 := n0_; have HB := n1_; clear n0_ n1_; (try clear hb); (try clear hb2); (try clear hk); (try clear hi); obtain ⟨cz9_0, cz9_1, cz9_2, cz9_3, cz9_4, cz9_5, cz9_6, cz9_7, cz9_8⟩ := bc9_ (w := w8) BK303.out; obtain ⟨fz9_0, fz9_1, fz9_2, fz9_3, fz9_4, fz9_5, fz9_6, fz9_7, fz9_8⟩ := bf9_ BK303.out) | ((with_reducible refine qbg (f := 55) rfl ?_); refine qcm (some 15) rfl rfl Tryd.func55 (by kernel_rfl) rfl #[.agg #[.int .i64 a0_0, .string a0_1, .int .i64 a0_2, .int .i64 a0_3, .int .i64 a0_4, .string a0_5, .string a0_6, .int .i64 a0_7, .slice A0_8 l0_8.length c0_8]] rfl ml_ ?_; (with_reducible refine (qbk.calls k a0_0 a0_1 a0_2 a0_3 a0_4 a0_5 a0_6 a0_7 _ _ l0_8 t306 _ ?side1 ?side2 A4.out).mono ?_); (case side1 => repeat (first | exact (Kd.qcd HR0_8.out HB.out) | (with_reducible refine Kd.qco ?_ _) | (with_reducible refine Kd.qcs ?_ _) | (with_reducible refine Kd.qdk ?_))); (case side2 => exact HC0_8.out); rintro e w10 ⟨v307, rfl, ho0, hb⟩; refine ⟨_, rfl, ?_⟩; have n0_ := qd.mk (Kd.qel ho0 (qcn (bwx_))); have n1_ := qd.mk (bb_ BK303 hb); have n2_ := qd.mk (qbd (bwx_) hb); clear BK303; clear HB; have HO308 := n0_; have BK303 := n1_; have HB := n2_; clear n0_ n1_ n2_; (try clear hb); (try clear hb2); (try clear hk); (try clear hi); (try clear ho0); obtain ⟨Ao11, co11, eo11⟩ := Kd.qcp HO308.out; subst eo11) | ((with_reducible refine qbg (f := 54) rfl ?_); refine qcm (some 16) rfl rfl Tryd.func54 (by kernel_rfl) rfl #[.slice Ao11 t306.length co11] rfl ml_ ?_; (with_reducible refine (qy.calls k _ _ t306 t309 t310 _ ?side1 ?side2 A5.out).mono ?_); (case side1 => repeat (first | exact (Kd.qbr HO308.out).2.2 | (with_reducible refine Kd.qco ?_ _) | (with_reducible refine Kd.qcs ?_ _) | (with_reducible refine Kd.qdk ?_))); (case side2 => exact (Kd.qbr HO308.out).2.1); rintro e w12 ⟨v311, rfl, ho0, hb⟩; refine ⟨_, rfl, ?_⟩; have n0_ := qd.mk (Kd.qjx (by (with_reducible repeat (first | apply Kd.R_alloc | apply Kd.qbi | apply Kd.qbl)); exact HO308.out) (Kd.R_base ho0) hb); have n1_ := qd.mk (Kd.qel (Kd.R_new' ho0 (Kd.R_lt (by (with_reducible repeat (first | apply Kd.R_alloc | apply Kd.qbi | apply Kd.qbl)); exact HO308.out))) (qcn (bwx_))); have n2_ := qd.mk (bb_ BK303 hb); have n3_ := qd.mk (qbd (bwx_) hb); clear HO308; clear BK303; clear HB; have HO308 := n0_; have HO312 := n1_; have BK303 := n2_; have HB := n3_; clear n0_ n1_ n2_ n3_; (try clear hb); (try clear hb2); (try clear hk); (try clear hi); (try clear ho0)))
  go_ret2
  exact ⟨_, ew_, by (with_reducible repeat (first | apply Kd.R_alloc | apply Kd.qbi | apply Kd.qbl)); exact Kd.qdq HO312.out (fun _ hk => trivial), bwx_⟩
 ·rw [if_neg c3] at H
  have c3b0 : (t305 == 0) = false := beq_eq_false_iff_ne.mpr c3
  have c3b1 : (t305 != 0) = true := bne_iff_ne.mpr c3
  simp only [Option.some.injEq, Prod.mk.injEq] at H
  obtain ⟨rfl, rfl⟩ := H
  go_enter Tryd.func26, Tryd.ntmps26
  go_wp2_with (first | ((with_reducible refine qce (N := 1) rfl ?_); refine qcc ?hg (N := 1) ?hd (cs := #[.int .i64 a0_0, .string a0_1, .int .i64 a0_2, .int .i64 a0_3, .int .i64 a0_4, .string a0_5, .string a0_6, .int .i64 a0_7, .slice A0_8 l0_8.length c0_8]) (t := 29) ?hr ?_; (case hd => rfl); (case hg => rfl); (case hr => first | (go_simp; done) | (go_simp; rfl)); intro gb303 hg w13 hbox hb; have n0_ := qd.mk (qbd (bw_) hb); have n1_ := qd.mk (hbox); have n2_ := qd.mk (gw_ (w := w) hg); have n3_ := qd.mk (gw_ (w := w) hg); clear HB; have HB := n0_; have BK303 := n1_; have GW303 := n2_; have GE303 := n3_; clear n0_ n1_ n2_ n3_; clear hb hbox hg; obtain ⟨cz14_0, cz14_1, cz14_2, cz14_3, cz14_4, cz14_5, cz14_6, cz14_7, cz14_8⟩ := bc9_ (w := w13) BK303.out; obtain ⟨fz14_0, fz14_1, fz14_2, fz14_3, fz14_4, fz14_5, fz14_6, fz14_7, fz14_8⟩ := bf9_ BK303.out) | ((with_reducible refine qbg (f := 53) rfl ?_); refine qcm (some 8) rfl rfl Tryd.func53 (by kernel_rfl) rfl #[.agg #[.int .i64 a0_0, .string a0_1, .int .i64 a0_2, .int .i64 a0_3, .int .i64 a0_4, .string a0_5, .string a0_6, .int .i64 a0_7, .slice A0_8 l0_8.length c0_8]] rfl ml_ ?_; (with_reducible refine (qbx.calls k a0_0 a0_1 a0_2 a0_3 a0_4 a0_5 a0_6 a0_7 _ _ l0_8 t304 t305 _ ?side1 ?side2 A2.out).mono ?_); (case side1 => repeat (first | exact (Kd.qcd HR0_8.out HB.out) | (with_reducible refine Kd.qco ?_ _) | (with_reducible refine Kd.qcs ?_ _) | (with_reducible refine Kd.qdk ?_))); (case side2 => exact HC0_8.out); rintro e w15 ⟨rfl, hb⟩; refine ⟨_, rfl, ?_⟩; have n0_ := qd.mk (bb_ BK303 hb); have n1_ := qd.mk (qbd (bwx_) hb); clear BK303; clear HB; have BK303 := n0_; have HB := n1_; clear n0_ n1_; (try clear hb); (try clear hb2); (try clear hk); (try clear hi)))
  go_ret2
  exact ⟨_, ew_, by first | exact Kd.qia _ _ _ _ _ | exact Kd.N_nil _ _ _ _ _ | exact Kd.V_nil _ _ _ _ _ | exact Kd.Q_nil _ _ _ _ _ | exact Kd.S_nil _ _ _ _ _, bwx_⟩
end Go.Proofs.YtppcjoaghlecmaaDoor.P
namespace Go.Proofs.YtppcjoaghlecmaaDoor.P
open Go.RowKit Go.Sort Go.Proofs.YtppcjoaghlecmaaDoorW.PrintWords Go.Proofs.YtppcjoaghlecmaaDoorW.PrintLast Go.Proofs.YtppcjoaghlecmaaDoorW.PrintMore Go.Maps Go.ChangeShapes Go.WideShapes Go.WideMaps Go.Shelf
set_option linter.unusedVariables false
set_option linter.unusedSimpArgs false
def cellsE (x : S29) : List S112 × Int := if (chkE x).2 = 0 then ofK (rawL x) else ([], (chkE x).2)
theorem okS_raw {x : S29} (h : (chkE x).2 = 0) : OkS (rawL x) := ⟨by have := (qhd h).2.1; omega, (qhd h).2.2⟩
theorem cells_ev (x : S29) (hf : FitE x) : Ev (fun k => qgi.f k x.f0 x.f1 x.f2 x.f3 x.f4 x.f5 x.f6 x.f7 x.f8) (cellsE x) := by
 unfold qgi.f cellsE
 refine Ev.bind (qmc x hf) ?_
 by_cases h : (chkE x).2 = 0
 ·simp only [if_pos h]
  refine Ev.bind (raw_ev x (by have := (qhx (qhh h).1).2.1; omega)) ?_
  unfold qgg.f
  rw [if_pos (okS_raw h)]
  exact Ev.now _
 simp only [if_neg h]
 exact Ev.now _
theorem rcells_ev (x : S29) (hs : qgo x) : Ev (fun k => qea.f k x.f0 x.f1 x.f2 x.f3 x.f4 x.f5 x.f6 x.f7 x.f8) (cellsE x) := by
 unfold qea.f cellsE
 refine Ev.bind (rchk_ev x hs) ?_
 by_cases h : (chkE x).2 = 0
 ·simp only [if_pos h]
  refine Ev.bind (lines_ev x hs (by have := (qhx (qhh h).1).2.1; omega)) ?_
  refine Ev.bind (refof_ev _ (okS_raw h)) ?_
  exact Ev.now _
 simp only [if_neg h]
 exact Ev.now _
theorem cellsE_len (x : S29) : (cellsE x).1.length ≤ 1000000 := by
 unfold cellsE
 split
 ·rename_i h
  exact ofK_len (okS_raw h)
 ·exact Nat.zero_le _
theorem cells_is (x : S29) (A : Option Addr) (c : Nat) (s : List S112) (n : Int) (w : World) (hC : Kd.C k109 w A x.f8.length x.f8) (hc : x.f8.length ≤ c) (hf : FitE x) (hT : Tab w) (hs : cellsE x = (s, n)) : Calls Tryd.prog 25 #[enV x A c] w fun e w' => ∃ A' c', e = .returned (.tuple #[.slice A' s.length c', .int .i64 n]) ∧ Sl w' A' s.length c' s ∧ Below w.heap.size w w' := by
 obtain ⟨k, hk⟩ := (cells_ev x hf).rounds
 rw [hs] at hk
 refine (qgi.calls k _ _ _ _ _ _ _ _ A c x.f8 s n w hC hc hk hT).mono ?_
 rintro e w' ⟨v, rfl, hr, hb⟩
 obtain ⟨A', c', rfl, h1⟩ := Sl.of hr
 exact ⟨A', c', rfl, h1, hb⟩
theorem rcells_is (x : S29) (A : Option Addr) (c : Nat) (s : List S112) (n : Int) (w : World) (hC : Kd.C k109 w A x.f8.length x.f8) (hc : x.f8.length ≤ c) (hf : qgo x) (hs : cellsE x = (s, n)) : Calls Tryd.prog 26 #[enV x A c] w fun e w' => ∃ A' c', e = .returned (.tuple #[.slice A' s.length c', .int .i64 n]) ∧ Sl w' A' s.length c' s ∧ Below w.heap.size w w' := by
 obtain ⟨k, hk⟩ := (rcells_ev x hf).rounds
 rw [hs] at hk
 refine (qea.calls k _ _ _ _ _ _ _ _ A c x.f8 s n w hC hc hk).mono ?_
 rintro e w' ⟨v, rfl, hr, hb⟩
 obtain ⟨A', c', rfl, h1⟩ := Sl.of hr
 exact ⟨A', c', rfl, h1, hb⟩
def qcw.f (a0_0 : Int) (a0_1 : ByteArray) (a0_2 a0_3 a0_4 : Int) (a0_5 a0_6 : ByteArray) (a0_7 : Int) (l0_8 : List S109) : Option Bool := if okEn ⟨a0_0, a0_1, a0_2, a0_3, a0_4, a0_5, a0_6, a0_7, l0_8⟩ then some true else none
set_option maxHeartbeats 8000000 in
set_option maxRecDepth 100000 in
theorem qkc (x : S29) (A : Option Addr) (c : Nat) (w : World) (hC : Kd.C k109 w A x.f8.length x.f8) (hc : x.f8.length ≤ c) (hok : okEn x) (hT : Tab w) :
  Calls Tryd.prog 5 #[enV x A c] w fun e w' => e = .returned (.bool true) ∧ Below w.heap.size w w' := by
 have HC := qd.mk hC
 have Hc := qd.mk hc
 have HT := qd.mk hT
 have HOK := qd.mk hok
 clear hC hc hT hok
 obtain ⟨lb, hlb⟩ : ∃ lb, largeB [x] = lb := ⟨_, rfl⟩
 have HLB := qd.mk hlb
 clear hlb
 obtain ⟨s, n, hs⟩ : ∃ s n, cellsE x = (s, n) := ⟨_, _, rfl⟩
 have HS := qd.mk hs
 have HSL := qd.mk (show s.length ≤ 1000000 from by have := cellsE_len x; rw [hs] at this; exact this)
 clear hs
 have HB1 := qd.mk (qbj (Below.refl w.heap.size w) (.cells #[.int .i64 x.f0, .string x.f1, .int .i64 x.f2, .int .i64 x.f3, .int .i64 x.f4, .string x.f5, .string x.f6, .int .i64 x.f7, .slice A x.f8.length c] 29))
 have HBX := qd.mk (qdr w (.cells #[.int .i64 x.f0, .string x.f1, .int .i64 x.f2, .int .i64 x.f3, .int .i64 x.f4, .string x.f5, .string x.f6, .int .i64 x.f7, .slice A x.f8.length c] 29))
 go_enter Tryd.func5, Tryd.ntmps5
 go_upto_region 1 with (fail)
 refine qdg (P := fun x => Code.wp _ _ _ _ x) _ ?_
 intro w1 hw1
 obtain ⟨gx, hgx⟩ : ∃ g, w.heap.size = g := ⟨_, rfl⟩
 have HBX1 := qd.mk (show w1.heap[w.heap.size]? = _ from hw1 ▸ HBX.out)
 have HBW1 := qd.mk (show Below w.heap.size w w1 from hw1 ▸ HB1.out)
 clear hw1 HBX HB1
 rw [hgx] at HBX1
 try rw [hgx]
 clear hgx
 obtain ⟨a0, a1, a2, a3, a4, a5, a6, a7, a8⟩ := qhr HBX1.out w1 (Below.refl _ _)
 have HLI := qd.mk (large_is (some ⟨w1.heap.size, 0, none⟩) 1 [x] lb _ (one_C29 w1 x A c (Kd.qcd HC.out HBW1.out) Hc.out) (by simp) (fun y hy => by rw [List.mem_singleton] at hy; rw [hy]; exact HOK.out) HLB.out)
 have HA1 := qd.mk (qbj (Below.refl w1.heap.size w1) (.cells #[.int .i64 x.f0, .string x.f1, .int .i64 x.f2, .int .i64 x.f3, .int .i64 x.f4, .string x.f5, .string x.f6, .int .i64 x.f7, .slice A x.f8.length c] 29))
 cases lb
 ·have HFE := qd.mk (fit_E HOK.out)
  have HSE := qd.mk (fit_short HOK.out)
  go_wp2_with (first
   | (go_at_call 16; refine HLI.out.mono ?_; rintro e w2 ⟨rfl, hb⟩; have HB2 := qd.mk (qch HBW1.out HBW1.out.size (qch HA1.out HA1.out.size hb)); have HBX2 := qd.mk (qcg HBX1.out (qch HA1.out HA1.out.size hb)); clear hb a0 a1 a2 a3 a4 a5 a6 a7 a8; obtain ⟨a0, a1, a2, a3, a4, a5, a6, a7, a8⟩ := qhr HBX2.out w2 (Below.refl _ _))
   | (go_at_call 25; (with_reducible refine (cells_is x A c s n _ (Kd.qcd HC.out HB2.out) Hc.out HFE.out (HT.out.below HB2.out) HS.out).mono ?_); rintro e w3 ⟨A3, c3, rfl, hs3, hb⟩; have HS3 := qd.mk hs3; have HB3 := qd.mk (qch HB2.out HB2.out.size hb); have HBX3 := qd.mk (qcg HBX2.out hb); clear hs3 hb a0 a1 a2 a3 a4 a5 a6 a7 a8; obtain ⟨a0, a1, a2, a3, a4, a5, a6, a7, a8⟩ := qhr HBX3.out w3 (Below.refl _ _))
   | (go_at_call 26; (with_reducible refine (rcells_is x A c s n _ (Kd.qcd HC.out HB3.out) Hc.out HSE.out HS.out).mono ?_); rintro e w4 ⟨A4, c4, rfl, hs4, hb⟩; have HS4 := qd.mk hs4; have HS34 := qd.mk (HS3.out.below hb); have HB4 := qd.mk (qch HB3.out HB3.out.size hb); clear hs4 hb a0 a1 a2 a3 a4 a5 a6 a7 a8)
   | (go_at_call 21; (with_reducible refine (same_is HS34.out HS4.out HSL.out).mono ?_); rintro e w5 ⟨rfl, hb⟩; have HB5 := qd.mk (qch HB4.out HB4.out.size hb); clear hb)
   | (go_at_call 17; (with_reducible refine (qlr _ (HT.out.below HB5.out)).mono ?_); rintro e w6 ⟨rfl, hb⟩; have HB6 := qd.mk hb; clear hb))
  go_ret
  exact ⟨rfl, qch HB5.out HB5.out.size HB6.out⟩
 ·go_wp2_with (first | (go_at_call 16; refine HLI.out.mono ?_; rintro e w2 ⟨rfl, hb⟩; have HB2 := qd.mk (qch HBW1.out HBW1.out.size (qch HA1.out HA1.out.size hb)); clear hb a0 a1 a2 a3 a4 a5 a6 a7 a8) | (go_at_call 17; (with_reducible refine (qlr _ (HT.out.below HB2.out)).mono ?_); rintro e w3 ⟨rfl, hb⟩; have HB3 := qd.mk hb; clear hb))
  go_ret
  exact ⟨rfl, qch HB2.out HB2.out.size HB3.out⟩
theorem qcw.calls (a0_0 : Int) (a0_1 : ByteArray) (a0_2 a0_3 a0_4 : Int) (a0_5 a0_6 : ByteArray) (a0_7 : Int) (A0_8 : Option Addr) (c0_8 : Nat) (l0_8 : List S109) (r : Bool) (w : World) (hr0_8 : Kd.C k109 w A0_8 l0_8.length l0_8) (hc0_8 : l0_8.length ≤ c0_8)
  (h : qcw.f a0_0 a0_1 a0_2 a0_3 a0_4 a0_5 a0_6 a0_7 l0_8 = some r) (hT : Tab w) :
  Calls Tryd.prog 5 #[.agg #[.int .i64 a0_0, .string a0_1, .int .i64 a0_2, .int .i64 a0_3, .int .i64 a0_4, .string a0_5, .string a0_6, .int .i64 a0_7, .slice A0_8 l0_8.length c0_8]] w fun e w' => e = .returned (.bool r) ∧ Below w.heap.size w w' := by
 unfold qcw.f at h
 split at h
 ·rename_i hok
  obtain rfl := Option.some.inj h
  exact qkc ⟨a0_0, a0_1, a0_2, a0_3, a0_4, a0_5, a0_6, a0_7, l0_8⟩ A0_8 c0_8 w hr0_8 hc0_8 hok hT
 ·cases h
end Go.Proofs.YtppcjoaghlecmaaDoor.P
namespace Go.Proofs.YtppcjoaghlecmaaDoor.P
open Go.RowKit Go.Proofs.YtppcjoaghlecmaaDoorW.PrintWords Go.Proofs.YtppcjoaghlecmaaDoorW.PrintLast
open Go.Proofs.YtppcjoaghlecmaaDoor.Op
def qcw.Pure : Prop := ∀ (a0 : S29), fit29 a0 → qcw.f a0.f0 a0.f1 a0.f2 a0.f3 a0.f4 a0.f5 a0.f6 a0.f7 a0.f8 = some true
end Go.Proofs.YtppcjoaghlecmaaDoor.P
namespace Go.Proofs.YtppcjoaghlecmaaDoor.Pure
open Go.RowKit Go.Proofs.YtppcjoaghlecmaaDoor.P Go.Proofs.YtppcjoaghlecmaaDoor.Op Go.Proofs.YtppcjoaghlecmaaDoorW.PrintWords Go.Proofs.YtppcjoaghlecmaaDoorW.PrintLast
theorem LedgerCells : qcw.Pure := by
 intro x hx
 unfold qcw.f
 exact if_pos (fit_ok hx)
end Go.Proofs.YtppcjoaghlecmaaDoor.Pure
