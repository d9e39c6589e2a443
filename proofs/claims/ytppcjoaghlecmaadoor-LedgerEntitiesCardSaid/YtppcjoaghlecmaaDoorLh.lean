/- Texts of mine and of the print, joined: HandKn0. -/
import Derived.Test.YtppcjoaghlecmaaDoorLg
import Derived.BigQuiet
namespace Go.Proofs.YtppcjoaghlecmaaDoor.P
open Go.RowKit Go.Sort Go.Proofs.YtppcjoaghlecmaaDoorW.PrintWords Go.Proofs.YtppcjoaghlecmaaDoorW.PrintLast Go.Proofs.YtppcjoaghlecmaaDoorW.PrintMore Go.Maps Go.ChangeShapes Go.WideShapes Go.WideMaps Go.Shelf
set_option linter.unusedVariables false
set_option linter.unusedSimpArgs false
structure Slb (w : World) (B : Nat) (A : Option Addr) (n c : Nat) (l : List S112) : Prop where
 len : l.length = n
 le : n ≤ c
 v : Kd.V k112 112 w 0 (fun k => B ≤ k) (.slice A n c) l
theorem Slb.of {w : World} {base : Nat} {ok : Nat → Prop} {v : Value} {l : List S112} (h : Kd.R k112 112 w base ok v l) : ∃ A c, v = .slice A l.length c ∧ Slb w base A l.length c l := by
 obtain ⟨A, c, rfl, hc, hC⟩ := Kd.R_reads h
 exact ⟨A, c, rfl, rfl, hc, Kd.V_mono (Kd.R_V (Kd.R_mono (Kd.R_tight rfl h) (ok' := fun k => base ≤ k) (fun k hk => Kd.R_base h k hk.symm))) (fun _ hk => hk)⟩
theorem Slb.below {w w' : World} {B : Nat} {A : Option Addr} {n c : Nat} {l : List S112} (h : Slb w B A n c l) (hb : Below w.heap.size w w') : Slb w' B A n c l := ⟨h.len, h.le, Kd.V_below h.v hb⟩
theorem Slb.but {w w' : World} {B m : Nat} {A : Option Addr} {n c : Nat} {l : List S112} (h : Slb w B A n c l) (hb : But (fun k => k = m) w w') (hm : m < B) : Slb w' B A n c l := ⟨h.len, h.le, Kd.V_step h.v (fun k hk hlt => hb.block k hlt (by omega))⟩
theorem Slb.sl {w : World} {B : Nat} {A : Option Addr} {n c : Nat} {l : List S112} (h : Slb w B A n c l) : Sl w A n c l := ⟨h.len, h.le, Kd.V_mono h.v (fun _ _ => trivial)⟩
theorem LiveE.sheetb {w0 w : World} {p m : Nat} {E : List S29} {s : List S112} (h : LiveE w0 w p m E) (hg : GoodE E) (hn : lnsE E ≤ 400) (hl : E.length ≤ 1000) (e : ByteArray) (a z b : Int) (hs : (sheetE E ⟨e, a, z, b⟩).1 = s) :
  Calls Tryd.prog 19 #[.pointer (some ⟨p, 0, none⟩), .agg #[.string e, .int .i64 a, .int .i64 z, .int .i64 b]] w fun e w' => ∃ A c, e = .returned (.tuple #[.slice A s.length c, .int .i64 0]) ∧ Slb w' w.heap.size A s.length c s ∧ Below w.heap.size w w' ∧ LiveE w0 w' p m E ∧ m < w.heap.size := by
 refine (h.sheet hg hl ⟨e, a, z, b⟩).mono ?_
 rintro e w' ⟨v, rfl, hr, hb, h2⟩
 rw [sheet_ok hg hn _]
 rw [hs] at hr
 obtain ⟨A, c, rfl, hsl⟩ := Slb.of hr
 exact ⟨A, c, rfl, hsl, hb, h2, h.led.ltm⟩
theorem late_sel {E : List S29} {x : S29} {q : Qy} (h : q.b < x.f2) : selC (postE E x) q = selC E q := by
 unfold postE
 split
 ·rw [selC_app, selC_cons]
  have : selB q x = false := by
   unfold selB
   rw [decide_eq_false (show ¬ x.f2 ≤ q.b by omega), Bool.and_false]
  rw [if_neg (by rw [this]; decide)]
  simp [selC]
 ·rfl
structure Erl (w0 w : World) (g : Nat) (q : Qy) (v : Value) (l : List S29) : Prop where
 row : Kd.N k29 29 w w0.heap.size (fun _ => True) v l
 box : w.heap[g]? = some (.cells #[.string q.e, .int .i64 q.a, .int .i64 q.z, .int .i64 q.b] 24 (0, 0))
 bel : Below w0.heap.size w0 w
theorem Erl.below {w0 w w' : World} {g : Nat} {q : Qy} {v : Value} {l : List S29} (h : Erl w0 w g q v l) (hb : Below w.heap.size w w') : Erl w0 w' g q v l := ⟨Kd.N_below h.row hb, blk_below h.box hb, below_then h.bel h.bel.size hb⟩
theorem N_empty (W : World) (base : Nat) (hb : base ≤ W.heap.size) : Kd.N k29 29 (W.alloc (.cells #[] 29)) base (fun _ => True) (.slice (some ⟨W.heap.size, 0, none⟩) 0 0) [] := by
 refine Kd.R_N ⟨fun _ _ => trivial, [], ?_, rfl, fun j p hj => by simp at hj⟩
 have h := World.ownsRow_lit (base := base) (e := 29) (size := 9) W #[] 0 hb (by decide) (by simp)
 have h2 : (W.alloc (.cells #[] 29)).ownsRow base 29 9 (.slice (some ⟨W.heap.size, 0, none⟩) 0 0) 0 [] := by simpa using h
 exact h2
theorem lns_take {l : List S29} {i : Nat} (h : i < l.length) : lnsE (l.take (i + 1)) = lnsE (l.take i) + (l[i]).f8.length := by
 rw [List.take_add_one, List.getElem?_eq_getElem h, lns_app]
 simp [lnsE]
theorem lns_le (l : List S29) (i : Nat) : lnsE (l.take i) ≤ lnsE l := by
 have h := lns_app (l.take i) (l.drop i)
 rw [List.take_append_drop] at h
 omega
structure Lat (w0 w : World) (p m g B : Nat) (q : Qy) (l : List S29) (j : Nat) (C0 : List S112) (E : List S29) (A : Option Addr) (c : Nat) (s : List S112) : Prop where
 live : LiveE w0 w p m E
 good : GoodE E
 sel : selC E q = C0
 lns : lnsE E ≤ lnsE (l.take j)
 len : E.length ≤ j
 box : w.heap[g]? = some (.cells #[.string q.e, .int .i64 q.a, .int .i64 q.z, .int .i64 q.b] 24 (0, 0))
 sl : Slb w B A s.length c s
theorem Lat.below {w0 w w' : World} {p m g B : Nat} {q : Qy} {l : List S29} {j : Nat} {C0 : List S112} {E : List S29} {A : Option Addr} {c : Nat} {s : List S112} (h : Lat w0 w p m g B q l j C0 E A c s) (hb : Below w.heap.size w w') : Lat w0 w' p m g B q l j C0 E A c s := ⟨h.live.below hb, h.good, h.sel, h.lns, h.len, blk_below h.box hb, h.sl.below hb⟩
theorem Lat.skip {w0 w : World} {p m g B : Nat} {q : Qy} {l : List S29} {j : Nat} {C0 : List S112} {E : List S29} {A : Option Addr} {c : Nat} {s : List S112} (h : Lat w0 w p m g B q l j C0 E A c s) (hj : j < l.length) : Lat w0 w p m g B q l (j + 1) C0 E A c s := ⟨h.live, h.good, h.sel, by rw [lns_take hj]; have := h.lns; omega, by have := h.len; omega, h.box, h.sl⟩
theorem Lat.post {w0 w w' : World} {p m g B : Nat} {q : Qy} {l : List S29} {j : Nat} {C0 : List S112} {E : List S29} {A : Option Addr} {c : Nat} {s : List S112} {x : S29} (h : Lat w0 w p m g B q l j C0 E A c s) (hj : j < l.length) (hx : l[j] = x) (hq : q.b < x.f2) (hL : LiveE w0 w' p m (postE E x)) (hb : But (fun k => k = m) w w') (hm : m < B) (hg : g ≠ m) : Lat w0 w' p m g B q l (j + 1) C0 (postE E x) A c s := by
 refine ⟨hL, h.good.post x, (late_sel hq).trans h.sel, ?_, ?_, hb.obj h.box hg, h.sl.but hb hm⟩
 ·rw [lns_take hj, hx]
  have := postE_lns E x
  have := h.lns
  omega
 ·have := postE_len E x
  have := h.len
  omega
theorem Lat.same {w0 w : World} {p m g B : Nat} {q : Qy} {l : List S29} {j : Nat} {E0 E : List S29} {A : Option Addr} {c : Nat} {s : List S112} (h : Lat w0 w p m g B q l j (selC E0 q) E A c s) (hs : (sheetE E0 q).1 = s) : (sheetE E ⟨q.e, q.a, q.z, q.b⟩).1 = s := by
 have := h.sel
 unfold sheetE at hs ⊢
 show (ofK (selC E q)).1 = s
 rw [this]
 exact hs
end Go.Proofs.YtppcjoaghlecmaaDoor.P
