/- What a law's arguments read as: the openers of this seat's structs. -/
import Derived.Test.YtbbhichndfbooaaPx0
import Derived.Test.YtbbhichndfbooaaOpn0
namespace Go.Proofs.Ytbbhichndfbooaa.P
open Go.RowKit Go.Proofs.YtbbhichndfbooaaW.PrintWords Go.Proofs.YtbbhichndfbooaaW.PrintLast
open Go.Proofs.Ytbbhichndfbooaa.Op
set_option linter.unusedVariables false
def fit60 (x : S60) : Prop := (fun n => (Lit.int .i64 n).wf = true) x.f0 ∧ (fun n => (Lit.int .i64 n).wf = true) x.f1
theorem opn60 : Opn Try.prog 60 k60 fit60 := by
  intro H enc w fuel cs x h
  obtain ⟨xs, n, _, _, hlen, hxl, hg⟩ := DataW.trod_struct Try.underlying60 h
  have hlen : cs.length = 2 := hlen.trans (by kernel_rfl)
  have g0 := (hg 0 _ rfl).trans (List.getElem?_eq_getElem (show 0 < xs.length by rw [hxl]; decide))
  change DataW.trod _ _ _ _ _ _ _ 3 (List.take (Try.prog.cellsOf 3) (List.drop 0 cs)) = _ at g0
  rw [show Try.prog.cellsOf 3 = 1 by kernel_rfl] at g0
  obtain ⟨y0, K0, f0⟩ := (opn_int Try.underlying3) g0
  have g1 := (hg 1 _ rfl).trans (List.getElem?_eq_getElem (show 1 < xs.length by rw [hxl]; decide))
  change DataW.trod _ _ _ _ _ _ _ 3 (List.take (Try.prog.cellsOf 3) (List.drop 1 cs)) = _ at g1
  rw [show Try.prog.cellsOf 3 = 1 by kernel_rfl] at g1
  obtain ⟨y1, K1, f1⟩ := (opn_int Try.underlying3) g1
  exact ⟨⟨y0, y1⟩, (show (Kd.pair (Kd.int .i64) (Kd.int .i64)).K w (y0, y1) cs from Opn.zero (Opn.cons K0 (Opn.last K1 (by omega)))), ⟨f0, f1⟩⟩
def fit25 (x : S25) : Prop := (FitL fit60) x.f0 ∧ (FitL (fun s => s.size ≤ maxLen)) x.f1
theorem opn25 : Opn Try.prog 25 k25 fit25 := by
  intro H enc w fuel cs x h
  obtain ⟨xs, n, _, _, hlen, hxl, hg⟩ := DataW.trod_struct Try.underlying25 h
  have hlen : cs.length = 2 := hlen.trans (by kernel_rfl)
  have g0 := (hg 0 _ rfl).trans (List.getElem?_eq_getElem (show 0 < xs.length by rw [hxl]; decide))
  change DataW.trod _ _ _ _ _ _ _ 22 (List.take (Try.prog.cellsOf 22) (List.drop 0 cs)) = _ at g0
  rw [show Try.prog.cellsOf 22 = 1 by kernel_rfl] at g0
  obtain ⟨y0, K0, f0⟩ := (opn_slice Try.underlying22 (by kernel_rfl) opn60) g0
  have g1 := (hg 1 _ rfl).trans (List.getElem?_eq_getElem (show 1 < xs.length by rw [hxl]; decide))
  change DataW.trod _ _ _ _ _ _ _ 23 (List.take (Try.prog.cellsOf 23) (List.drop 1 cs)) = _ at g1
  rw [show Try.prog.cellsOf 23 = 1 by kernel_rfl] at g1
  obtain ⟨y1, K1, f1⟩ := (opn_slice Try.underlying23 (by kernel_rfl) (opn_string Try.underlying9)) g1
  exact ⟨⟨y0, y1⟩, (show (Kd.pair (Kd.slice 60 k60) (Kd.slice 9 Kd.string)).K w (y0, y1) cs from Opn.zero (Opn.cons K0 (Opn.last K1 (by omega)))), ⟨f0, f1⟩⟩
def fit46 (x : S46) : Prop := (fun n => (Lit.int .i64 n).wf = true) x.f0 ∧ (fun n => (Lit.int .i64 n).wf = true) x.f1 ∧ (fun s => s.size ≤ maxLen) x.f2 ∧ (fun n => (Lit.int .i64 n).wf = true) x.f3
theorem opn46 : Opn Try.prog 46 k46 fit46 := by
  intro H enc w fuel cs x h
  obtain ⟨xs, n, _, _, hlen, hxl, hg⟩ := DataW.trod_struct Try.underlying46 h
  have hlen : cs.length = 4 := hlen.trans (by kernel_rfl)
  have g0 := (hg 0 _ rfl).trans (List.getElem?_eq_getElem (show 0 < xs.length by rw [hxl]; decide))
  change DataW.trod _ _ _ _ _ _ _ 3 (List.take (Try.prog.cellsOf 3) (List.drop 0 cs)) = _ at g0
  rw [show Try.prog.cellsOf 3 = 1 by kernel_rfl] at g0
  obtain ⟨y0, K0, f0⟩ := (opn_int Try.underlying3) g0
  have g1 := (hg 1 _ rfl).trans (List.getElem?_eq_getElem (show 1 < xs.length by rw [hxl]; decide))
  change DataW.trod _ _ _ _ _ _ _ 3 (List.take (Try.prog.cellsOf 3) (List.drop 1 cs)) = _ at g1
  rw [show Try.prog.cellsOf 3 = 1 by kernel_rfl] at g1
  obtain ⟨y1, K1, f1⟩ := (opn_int Try.underlying3) g1
  have g2 := (hg 2 _ rfl).trans (List.getElem?_eq_getElem (show 2 < xs.length by rw [hxl]; decide))
  change DataW.trod _ _ _ _ _ _ _ 9 (List.take (Try.prog.cellsOf 9) (List.drop 2 cs)) = _ at g2
  rw [show Try.prog.cellsOf 9 = 1 by kernel_rfl] at g2
  obtain ⟨y2, K2, f2⟩ := (opn_string Try.underlying9) g2
  have g3 := (hg 3 _ rfl).trans (List.getElem?_eq_getElem (show 3 < xs.length by rw [hxl]; decide))
  change DataW.trod _ _ _ _ _ _ _ 3 (List.take (Try.prog.cellsOf 3) (List.drop 3 cs)) = _ at g3
  rw [show Try.prog.cellsOf 3 = 1 by kernel_rfl] at g3
  obtain ⟨y3, K3, f3⟩ := (opn_int Try.underlying3) g3
  exact ⟨⟨y0, y1, y2, y3⟩, (show (Kd.pair (Kd.int .i64) (Kd.pair (Kd.int .i64) (Kd.pair Kd.string (Kd.int .i64)))).K w (y0, y1, y2, y3) cs from Opn.zero (Opn.cons K0 (Opn.cons K1 (Opn.cons K2 (Opn.last K3 (by omega)))))), ⟨f0, f1, f2, f3⟩⟩
end Go.Proofs.Ytbbhichndfbooaa.P
