/- The contract of words.word: the word that begins at an offset, and its end. -/
import Derived.Test.YtlcjajcjoflpkaaPx0
import Derived.Test.YtlcjajcjoflpkaaPx4
import Derived.Test.YtlcjajcjoflpkaaPx5
import Derived.Test.YtlcjajcjoflpkaaPx6
import Derived.Test.YtlcjajcjoflpkaaPx7
import Derived.RegionTactic
import Derived.ChangeAlike
import Derived.Lib.Hide
namespace Go.Proofs.Ytlcjajcjoflpkaa.P
open Go.RowKit Go.Proofs.YtlcjajcjoflpkaaW.PrintWords Go.Proofs.YtlcjajcjoflpkaaW.PrintLast Go.Proofs.YtlcjajcjoflpkaaW.PrintMore
set_option linter.unusedVariables false
set_option linter.unusedSimpArgs false

theorem with_world {P : World → Prop} (W : World) (h : ∀ w2, w2 = W → P w2) : P W := h W rfl
theorem blk_to {w : World} {g : Nat} {t : TypeId} {cs cs' : Array Value} (h : w.heap[g]? = some (.cells cs t (0, 0))) (e : cs = cs') : w.heap[g]? = some (.cells cs' t (0, 0)) := e ▸ h
theorem blk_new2 (w : World) (o o' : Obj) : ((w.alloc o).alloc o').heap[w.heap.size + 1]? = some o' := by
  have h := blk_new (w.alloc o) o'
  have e : (w.alloc o).heap.size = w.heap.size + 1 := by simp
  rw [e] at h
  exact h

set_option maxHeartbeats 1000000 in
set_option maxRecDepth 100000 in
theorem word_letter_ok (k : Nat) (s : ByteArray) (a e : Int) (w : World) (h0 : 0 ≤ a) (h1 : a < (s.size : Int)) (hl : words_letter.f (bt s a) = some true) (hn : words_nameEnd.f k s a = some e) (h2 : a ≤ e) (h3 : e ≤ (s.size : Int)) (h4 : ((e.toNat - a.toNat : Nat) : Int) ≤ 12) :
    Calls Try.prog 30 #[.string s, .int .i64 a] w fun q w' => q = .returned (.tuple #[.agg #[.int .i64 1, .string (s.extract a.toNat e.toNat), .int .i64 a], .int .i64 e, .agg #[.int .i64 0, .int .i64 0]]) ∧ Below w.heap.size w w' := by
  have HL := Aside0.mk hl
  clear hl
  have HN := Aside0.mk hn
  clear hn
  have hu39 := Try.underlying39
  have hu44 := Try.underlying44
  have hx := bt_at s a
  have p5 := eq_true h0
  have q5 := eq_true h1
  go_enter Try.func30, Try.ntmps30
  go_wp2_with (first | (go_at_call 25; (with_reducible refine (words_letter.calls (bt s a) true _ HL.out).mono ?_); rintro e w' ⟨rfl, ⟨nd25, rfl⟩⟩) | (go_at_call 34; (with_reducible refine (words_nameEnd.calls k s a e _ HN.out).mono ?_); rintro e w' ⟨rfl, ⟨nd34, rfl⟩⟩))
  go_region
  go_wp2
  have n1 : w.heap.size ≠ w.heap.size + 1 := by omega
  have n2 : w.heap.size + 1 ≠ w.heap.size := by omega
  have g1 : w.heap.size ≤ w.heap.size := by omega
  have g2 : w.heap.size ≤ w.heap.size + 1 := by omega
  refine bodyPost_ret (results_list (rs := [.cell 4 39, .tmp 5, .cell 6 44]) rfl (by simp) (.cell w.heap.size 39 #[.int .i64 1, .string (s.extract a.toNat e.toNat), .int .i64 a] (0, 0) _ rfl (by apply blk_to; (· (repeat (first | (with_reducible exact blk_new _ _) | (with_reducible exact blk_new2 _ _ _) | (with_reducible apply blk_drewN) | (with_reducible apply blk_drew) | (with_reducible apply blk_set) | (with_reducible apply blk_far (hp := n1)) | (with_reducible apply blk_far (hp := n2)) | (with_reducible apply blk_alloc) | (with_reducible exact blk_new2 _ _ _)))); (· rfl)) Try.underlying39 rfl (by kernel_rfl) (.tmp (.cell (w.heap.size + 1) 44 #[.int .i64 0, .int .i64 0] (0, 0) _ rfl (by apply blk_to; (· (repeat (first | (with_reducible exact blk_new _ _) | (with_reducible exact blk_new2 _ _ _) | (with_reducible apply blk_drewN) | (with_reducible apply blk_drew) | (with_reducible apply blk_set) | (with_reducible apply blk_far (hp := n1)) | (with_reducible apply blk_far (hp := n2)) | (with_reducible apply blk_alloc) | (with_reducible exact blk_new2 _ _ _)))); (· rfl)) Try.underlying44 rfl (by kernel_rfl) .nil)))) rfl ?_
  exact ⟨rfl, (by repeat (with_reducible first | exact Below.refl _ _ | apply below_alloc | apply pw_below_drewN | apply below_drew1 | refine below_set ?_ g1 | refine below_set ?_ g2))⟩

set_option maxHeartbeats 1000000 in
set_option maxRecDepth 100000 in
theorem word_letter_big (k : Nat) (s : ByteArray) (a e : Int) (w : World) (h0 : 0 ≤ a) (h1 : a < (s.size : Int)) (hl : words_letter.f (bt s a) = some true) (hn : words_nameEnd.f k s a = some e) (h2 : a ≤ e) (h3 : e ≤ (s.size : Int)) (h4 : ((e.toNat - a.toNat : Nat) : Int) > 12) :
    Calls Try.prog 30 #[.string s, .int .i64 a] w fun q w' => q = .returned (.tuple #[.agg #[.int .i64 1, .string (s.extract a.toNat e.toNat), .int .i64 a], .int .i64 e, .agg #[.int .i64 a, .int .i64 9]]) ∧ Below w.heap.size w w' := by
  have HL := Aside0.mk hl
  clear hl
  have HN := Aside0.mk hn
  clear hn
  have hu39 := Try.underlying39
  have hu44 := Try.underlying44
  have hx := bt_at s a
  have p5 := eq_true h0
  have q5 := eq_true h1
  go_enter Try.func30, Try.ntmps30
  go_wp2_with (first | (go_at_call 25; (with_reducible refine (words_letter.calls (bt s a) true _ HL.out).mono ?_); rintro e w' ⟨rfl, ⟨nd25, rfl⟩⟩) | (go_at_call 34; (with_reducible refine (words_nameEnd.calls k s a e _ HN.out).mono ?_); rintro e w' ⟨rfl, ⟨nd34, rfl⟩⟩))
  go_region
  go_wp2
  have n1 : w.heap.size ≠ w.heap.size + 1 := by omega
  have n2 : w.heap.size + 1 ≠ w.heap.size := by omega
  have g1 : w.heap.size ≤ w.heap.size := by omega
  have g2 : w.heap.size ≤ w.heap.size + 1 := by omega
  refine bodyPost_ret (results_list (rs := [.cell 4 39, .tmp 5, .cell 6 44]) rfl (by simp) (.cell w.heap.size 39 #[.int .i64 1, .string (s.extract a.toNat e.toNat), .int .i64 a] (0, 0) _ rfl (by apply blk_to; (· (repeat (first | (with_reducible exact blk_new _ _) | (with_reducible exact blk_new2 _ _ _) | (with_reducible apply blk_drewN) | (with_reducible apply blk_drew) | (with_reducible apply blk_set) | (with_reducible apply blk_far (hp := n1)) | (with_reducible apply blk_far (hp := n2)) | (with_reducible apply blk_alloc) | (with_reducible exact blk_new2 _ _ _)))); (· rfl)) Try.underlying39 rfl (by kernel_rfl) (.tmp (.cell (w.heap.size + 1) 44 #[.int .i64 a, .int .i64 9] (0, 0) _ rfl (by apply blk_to; (· (repeat (first | (with_reducible exact blk_new _ _) | (with_reducible exact blk_new2 _ _ _) | (with_reducible apply blk_drewN) | (with_reducible apply blk_drew) | (with_reducible apply blk_set) | (with_reducible apply blk_far (hp := n1)) | (with_reducible apply blk_far (hp := n2)) | (with_reducible apply blk_alloc) | (with_reducible exact blk_new2 _ _ _)))); (· rfl)) Try.underlying44 rfl (by kernel_rfl) .nil)))) rfl ?_
  exact ⟨rfl, (by repeat (with_reducible first | exact Below.refl _ _ | apply below_alloc | apply pw_below_drewN | apply below_drew1 | refine below_set ?_ g1 | refine below_set ?_ g2))⟩

set_option maxHeartbeats 1000000 in
set_option maxRecDepth 100000 in
theorem word_digit_ok (k : Nat) (s : ByteArray) (a e : Int) (w : World) (h0 : 0 ≤ a) (h1 : a < (s.size : Int)) (hl : words_letter.f (bt s a) = some false) (hd : words_digit.f (bt s a) = some true) (hn : words_numberEnd.f k s a = some e) (h2 : a ≤ e) (h3 : e ≤ (s.size : Int)) (h4 : ((e.toNat - a.toNat : Nat) : Int) ≤ 60) :
    Calls Try.prog 30 #[.string s, .int .i64 a] w fun q w' => q = .returned (.tuple #[.agg #[.int .i64 2, .string (s.extract a.toNat e.toNat), .int .i64 a], .int .i64 e, .agg #[.int .i64 0, .int .i64 0]]) ∧ Below w.heap.size w w' := by
  have HL := Aside0.mk hl
  clear hl
  have HD := Aside0.mk hd
  clear hd
  have HN := Aside0.mk hn
  clear hn
  have hu39 := Try.underlying39
  have hu44 := Try.underlying44
  have hx := bt_at s a
  have p5 := eq_true h0
  have q5 := eq_true h1
  go_enter Try.func30, Try.ntmps30
  go_wp2_with (first | (go_at_call 25; (with_reducible refine (words_letter.calls (bt s a) false _ HL.out).mono ?_); rintro e w' ⟨rfl, ⟨nd25, rfl⟩⟩) | (go_at_call 26; (with_reducible refine (words_digit.calls (bt s a) true _ HD.out).mono ?_); rintro e w' ⟨rfl, ⟨nd26, rfl⟩⟩) | (go_at_call 36; (with_reducible refine (words_numberEnd.calls k s a e _ HN.out).mono ?_); rintro e w' ⟨rfl, ⟨nd36, rfl⟩⟩))
  go_region
  go_wp2
  have n1 : w.heap.size ≠ w.heap.size + 1 := by omega
  have n2 : w.heap.size + 1 ≠ w.heap.size := by omega
  have g1 : w.heap.size ≤ w.heap.size := by omega
  have g2 : w.heap.size ≤ w.heap.size + 1 := by omega
  refine bodyPost_ret (results_list (rs := [.cell 4 39, .tmp 5, .cell 6 44]) rfl (by simp) (.cell w.heap.size 39 #[.int .i64 2, .string (s.extract a.toNat e.toNat), .int .i64 a] (0, 0) _ rfl (by apply blk_to; (· (repeat (first | (with_reducible exact blk_new _ _) | (with_reducible exact blk_new2 _ _ _) | (with_reducible apply blk_drewN) | (with_reducible apply blk_drew) | (with_reducible apply blk_set) | (with_reducible apply blk_far (hp := n1)) | (with_reducible apply blk_far (hp := n2)) | (with_reducible apply blk_alloc) | (with_reducible exact blk_new2 _ _ _)))); (· rfl)) Try.underlying39 rfl (by kernel_rfl) (.tmp (.cell (w.heap.size + 1) 44 #[.int .i64 0, .int .i64 0] (0, 0) _ rfl (by apply blk_to; (· (repeat (first | (with_reducible exact blk_new _ _) | (with_reducible exact blk_new2 _ _ _) | (with_reducible apply blk_drewN) | (with_reducible apply blk_drew) | (with_reducible apply blk_set) | (with_reducible apply blk_far (hp := n1)) | (with_reducible apply blk_far (hp := n2)) | (with_reducible apply blk_alloc) | (with_reducible exact blk_new2 _ _ _)))); (· rfl)) Try.underlying44 rfl (by kernel_rfl) .nil)))) rfl ?_
  exact ⟨rfl, (by repeat (with_reducible first | exact Below.refl _ _ | apply below_alloc | apply pw_below_drewN | apply below_drew1 | refine below_set ?_ g1 | refine below_set ?_ g2))⟩

set_option maxHeartbeats 1000000 in
set_option maxRecDepth 100000 in
theorem word_digit_big (k : Nat) (s : ByteArray) (a e : Int) (w : World) (h0 : 0 ≤ a) (h1 : a < (s.size : Int)) (hl : words_letter.f (bt s a) = some false) (hd : words_digit.f (bt s a) = some true) (hn : words_numberEnd.f k s a = some e) (h2 : a ≤ e) (h3 : e ≤ (s.size : Int)) (h4 : ((e.toNat - a.toNat : Nat) : Int) > 60) :
    Calls Try.prog 30 #[.string s, .int .i64 a] w fun q w' => q = .returned (.tuple #[.agg #[.int .i64 2, .string (s.extract a.toNat e.toNat), .int .i64 a], .int .i64 e, .agg #[.int .i64 a, .int .i64 9]]) ∧ Below w.heap.size w w' := by
  have HL := Aside0.mk hl
  clear hl
  have HD := Aside0.mk hd
  clear hd
  have HN := Aside0.mk hn
  clear hn
  have hu39 := Try.underlying39
  have hu44 := Try.underlying44
  have hx := bt_at s a
  have p5 := eq_true h0
  have q5 := eq_true h1
  go_enter Try.func30, Try.ntmps30
  go_wp2_with (first | (go_at_call 25; (with_reducible refine (words_letter.calls (bt s a) false _ HL.out).mono ?_); rintro e w' ⟨rfl, ⟨nd25, rfl⟩⟩) | (go_at_call 26; (with_reducible refine (words_digit.calls (bt s a) true _ HD.out).mono ?_); rintro e w' ⟨rfl, ⟨nd26, rfl⟩⟩) | (go_at_call 36; (with_reducible refine (words_numberEnd.calls k s a e _ HN.out).mono ?_); rintro e w' ⟨rfl, ⟨nd36, rfl⟩⟩))
  go_region
  go_wp2
  have n1 : w.heap.size ≠ w.heap.size + 1 := by omega
  have n2 : w.heap.size + 1 ≠ w.heap.size := by omega
  have g1 : w.heap.size ≤ w.heap.size := by omega
  have g2 : w.heap.size ≤ w.heap.size + 1 := by omega
  refine bodyPost_ret (results_list (rs := [.cell 4 39, .tmp 5, .cell 6 44]) rfl (by simp) (.cell w.heap.size 39 #[.int .i64 2, .string (s.extract a.toNat e.toNat), .int .i64 a] (0, 0) _ rfl (by apply blk_to; (· (repeat (first | (with_reducible exact blk_new _ _) | (with_reducible exact blk_new2 _ _ _) | (with_reducible apply blk_drewN) | (with_reducible apply blk_drew) | (with_reducible apply blk_set) | (with_reducible apply blk_far (hp := n1)) | (with_reducible apply blk_far (hp := n2)) | (with_reducible apply blk_alloc) | (with_reducible exact blk_new2 _ _ _)))); (· rfl)) Try.underlying39 rfl (by kernel_rfl) (.tmp (.cell (w.heap.size + 1) 44 #[.int .i64 a, .int .i64 9] (0, 0) _ rfl (by apply blk_to; (· (repeat (first | (with_reducible exact blk_new _ _) | (with_reducible exact blk_new2 _ _ _) | (with_reducible apply blk_drewN) | (with_reducible apply blk_drew) | (with_reducible apply blk_set) | (with_reducible apply blk_far (hp := n1)) | (with_reducible apply blk_far (hp := n2)) | (with_reducible apply blk_alloc) | (with_reducible exact blk_new2 _ _ _)))); (· rfl)) Try.underlying44 rfl (by kernel_rfl) .nil)))) rfl ?_
  exact ⟨rfl, (by repeat (with_reducible first | exact Below.refl _ _ | apply below_alloc | apply pw_below_drewN | apply below_drew1 | refine below_set ?_ g1 | refine below_set ?_ g2))⟩

set_option maxHeartbeats 1000000 in
set_option maxRecDepth 100000 in
theorem word_minus_ok (k : Nat) (s : ByteArray) (a e : Int) (w : World) (h0 : 0 ≤ a) (h1 : a < (s.size : Int)) (hl : words_letter.f (bt s a) = some false) (hd : words_digit.f (bt s a) = some false) (hc45 : bt s a = 45) (ht : words_digitAt.f s (wrap64 (a + 1)) = some true) (hn : words_numberEnd.f k s a = some e) (h2 : a ≤ e) (h3 : e ≤ (s.size : Int)) (h4 : ((e.toNat - a.toNat : Nat) : Int) ≤ 60) :
    Calls Try.prog 30 #[.string s, .int .i64 a] w fun q w' => q = .returned (.tuple #[.agg #[.int .i64 2, .string (s.extract a.toNat e.toNat), .int .i64 a], .int .i64 e, .agg #[.int .i64 0, .int .i64 0]]) ∧ Below w.heap.size w w' := by
  have HL := Aside0.mk hl
  clear hl
  have HD := Aside0.mk hd
  clear hd
  have HT := Aside0.mk ht
  clear ht
  have HN := Aside0.mk hn
  clear hn
  have hu39 := Try.underlying39
  have hu44 := Try.underlying44
  have e45 : (bt s a == 45) = true := beq_iff_eq.mpr hc45
  have f45 : (bt s a != 45) = false := bne_eq_false_iff_eq.mpr hc45
  have e34 : (bt s a == 34) = false := beq_eq_false_iff_ne.mpr (by omega)
  clear hc45
  have hx := bt_at s a
  have p5 := eq_true h0
  have q5 := eq_true h1
  go_enter Try.func30, Try.ntmps30
  go_wp2_with (first | (go_at_call 25; (with_reducible refine (words_letter.calls (bt s a) false _ HL.out).mono ?_); rintro e w' ⟨rfl, ⟨nd25, rfl⟩⟩) | (go_at_call 26; (with_reducible refine (words_digit.calls (bt s a) false _ HD.out).mono ?_); rintro e w' ⟨rfl, ⟨nd26, rfl⟩⟩) | (go_at_call 35; (with_reducible refine (words_digitAt.calls s (wrap64 (a + 1)) true _ HT.out).mono ?_); rintro e w' ⟨rfl, ⟨nd35, rfl⟩⟩) | (go_at_call 36; (with_reducible refine (words_numberEnd.calls k s a e _ HN.out).mono ?_); rintro e w' ⟨rfl, ⟨nd36, rfl⟩⟩))
  go_region
  go_wp2
  have n1 : w.heap.size ≠ w.heap.size + 1 := by omega
  have n2 : w.heap.size + 1 ≠ w.heap.size := by omega
  have g1 : w.heap.size ≤ w.heap.size := by omega
  have g2 : w.heap.size ≤ w.heap.size + 1 := by omega
  refine bodyPost_ret (results_list (rs := [.cell 4 39, .tmp 5, .cell 6 44]) rfl (by simp) (.cell w.heap.size 39 #[.int .i64 2, .string (s.extract a.toNat e.toNat), .int .i64 a] (0, 0) _ rfl (by apply blk_to; (· (repeat (first | (with_reducible exact blk_new _ _) | (with_reducible exact blk_new2 _ _ _) | (with_reducible apply blk_drewN) | (with_reducible apply blk_drew) | (with_reducible apply blk_set) | (with_reducible apply blk_far (hp := n1)) | (with_reducible apply blk_far (hp := n2)) | (with_reducible apply blk_alloc) | (with_reducible exact blk_new2 _ _ _)))); (· rfl)) Try.underlying39 rfl (by kernel_rfl) (.tmp (.cell (w.heap.size + 1) 44 #[.int .i64 0, .int .i64 0] (0, 0) _ rfl (by apply blk_to; (· (repeat (first | (with_reducible exact blk_new _ _) | (with_reducible exact blk_new2 _ _ _) | (with_reducible apply blk_drewN) | (with_reducible apply blk_drew) | (with_reducible apply blk_set) | (with_reducible apply blk_far (hp := n1)) | (with_reducible apply blk_far (hp := n2)) | (with_reducible apply blk_alloc) | (with_reducible exact blk_new2 _ _ _)))); (· rfl)) Try.underlying44 rfl (by kernel_rfl) .nil)))) rfl ?_
  exact ⟨rfl, (by repeat (with_reducible first | exact Below.refl _ _ | apply below_alloc | apply pw_below_drewN | apply below_drew1 | refine below_set ?_ g1 | refine below_set ?_ g2))⟩

set_option maxHeartbeats 1000000 in
set_option maxRecDepth 100000 in
theorem word_minus_big (k : Nat) (s : ByteArray) (a e : Int) (w : World) (h0 : 0 ≤ a) (h1 : a < (s.size : Int)) (hl : words_letter.f (bt s a) = some false) (hd : words_digit.f (bt s a) = some false) (hc45 : bt s a = 45) (ht : words_digitAt.f s (wrap64 (a + 1)) = some true) (hn : words_numberEnd.f k s a = some e) (h2 : a ≤ e) (h3 : e ≤ (s.size : Int)) (h4 : ((e.toNat - a.toNat : Nat) : Int) > 60) :
    Calls Try.prog 30 #[.string s, .int .i64 a] w fun q w' => q = .returned (.tuple #[.agg #[.int .i64 2, .string (s.extract a.toNat e.toNat), .int .i64 a], .int .i64 e, .agg #[.int .i64 a, .int .i64 9]]) ∧ Below w.heap.size w w' := by
  have HL := Aside0.mk hl
  clear hl
  have HD := Aside0.mk hd
  clear hd
  have HT := Aside0.mk ht
  clear ht
  have HN := Aside0.mk hn
  clear hn
  have hu39 := Try.underlying39
  have hu44 := Try.underlying44
  have e45 : (bt s a == 45) = true := beq_iff_eq.mpr hc45
  have f45 : (bt s a != 45) = false := bne_eq_false_iff_eq.mpr hc45
  have e34 : (bt s a == 34) = false := beq_eq_false_iff_ne.mpr (by omega)
  clear hc45
  have hx := bt_at s a
  have p5 := eq_true h0
  have q5 := eq_true h1
  go_enter Try.func30, Try.ntmps30
  go_wp2_with (first | (go_at_call 25; (with_reducible refine (words_letter.calls (bt s a) false _ HL.out).mono ?_); rintro e w' ⟨rfl, ⟨nd25, rfl⟩⟩) | (go_at_call 26; (with_reducible refine (words_digit.calls (bt s a) false _ HD.out).mono ?_); rintro e w' ⟨rfl, ⟨nd26, rfl⟩⟩) | (go_at_call 35; (with_reducible refine (words_digitAt.calls s (wrap64 (a + 1)) true _ HT.out).mono ?_); rintro e w' ⟨rfl, ⟨nd35, rfl⟩⟩) | (go_at_call 36; (with_reducible refine (words_numberEnd.calls k s a e _ HN.out).mono ?_); rintro e w' ⟨rfl, ⟨nd36, rfl⟩⟩))
  go_region
  go_wp2
  have n1 : w.heap.size ≠ w.heap.size + 1 := by omega
  have n2 : w.heap.size + 1 ≠ w.heap.size := by omega
  have g1 : w.heap.size ≤ w.heap.size := by omega
  have g2 : w.heap.size ≤ w.heap.size + 1 := by omega
  refine bodyPost_ret (results_list (rs := [.cell 4 39, .tmp 5, .cell 6 44]) rfl (by simp) (.cell w.heap.size 39 #[.int .i64 2, .string (s.extract a.toNat e.toNat), .int .i64 a] (0, 0) _ rfl (by apply blk_to; (· (repeat (first | (with_reducible exact blk_new _ _) | (with_reducible exact blk_new2 _ _ _) | (with_reducible apply blk_drewN) | (with_reducible apply blk_drew) | (with_reducible apply blk_set) | (with_reducible apply blk_far (hp := n1)) | (with_reducible apply blk_far (hp := n2)) | (with_reducible apply blk_alloc) | (with_reducible exact blk_new2 _ _ _)))); (· rfl)) Try.underlying39 rfl (by kernel_rfl) (.tmp (.cell (w.heap.size + 1) 44 #[.int .i64 a, .int .i64 9] (0, 0) _ rfl (by apply blk_to; (· (repeat (first | (with_reducible exact blk_new _ _) | (with_reducible exact blk_new2 _ _ _) | (with_reducible apply blk_drewN) | (with_reducible apply blk_drew) | (with_reducible apply blk_set) | (with_reducible apply blk_far (hp := n1)) | (with_reducible apply blk_far (hp := n2)) | (with_reducible apply blk_alloc) | (with_reducible exact blk_new2 _ _ _)))); (· rfl)) Try.underlying44 rfl (by kernel_rfl) .nil)))) rfl ?_
  exact ⟨rfl, (by repeat (with_reducible first | exact Below.refl _ _ | apply below_alloc | apply pw_below_drewN | apply below_drew1 | refine below_set ?_ g1 | refine below_set ?_ g2))⟩

set_option maxHeartbeats 1000000 in
set_option maxRecDepth 100000 in
theorem word_quote_err (k : Nat) (s : ByteArray) (a : Int) (t : ByteArray) (e pa pe : Int) (w : World) (h0 : 0 ≤ a) (h1 : a < (s.size : Int)) (hl : words_letter.f (bt s a) = some false) (hd : words_digit.f (bt s a) = some false) (hc34 : bt s a = 34) (hq : words_quoted.f k s a = some (t, e, pa, pe)) (hpe : ¬ pe = 0) :
    Calls Try.prog 30 #[.string s, .int .i64 a] w fun q w' => q = .returned (.tuple #[.agg #[.int .i64 3, .string t, .int .i64 a], .int .i64 e, .agg #[.int .i64 pa, .int .i64 pe]]) ∧ Below w.heap.size w w' := by
  have HL := Aside0.mk hl
  have HD := Aside0.mk hd
  have HQ := Aside0.mk hq
  clear hl hd hq
  have e34 : (bt s a == 34) = true := beq_iff_eq.mpr hc34
  have f34 : (bt s a != 34) = false := bne_eq_false_iff_eq.mpr hc34
  have e45 : (bt s a == 45) = false := beq_eq_false_iff_ne.mpr (by omega)
  clear hc34
  have g34 : (pe == 0) = false := beq_eq_false_iff_ne.mpr hpe
  have g35 : (pe != 0) = true := bne_iff_ne.mpr hpe
  clear hpe
  have hu39 := Try.underlying39
  have hu44 := Try.underlying44
  have hx := bt_at s a
  have p5 := eq_true h0
  have q5 := eq_true h1
  have n1 : w.heap.size ≠ w.heap.size + 1 := by omega
  have n2 : w.heap.size + 1 ≠ w.heap.size := by omega
  have g1 : w.heap.size ≤ w.heap.size := by omega
  have g2 : w.heap.size ≤ w.heap.size + 1 := by omega
  go_enter Try.func30, Try.ntmps30
  go_wp2_with (first | (go_at_call 25; (with_reducible refine (words_letter.calls (bt s a) false _ HL.out).mono ?_); rintro e w' ⟨rfl, ⟨nd25, rfl⟩⟩) | (go_at_call 26; (with_reducible refine (words_digit.calls (bt s a) false _ HD.out).mono ?_); rintro e w' ⟨rfl, ⟨nd26, rfl⟩⟩) | (go_at_call 37; (with_reducible refine (words_quoted.calls k s a t e pa pe _ HQ.out).mono ?_); rintro q w1 ⟨rfl, hb⟩; have B39 : w1.heap[w.heap.size]? = some (.cells #[.int .i64 3, .string ⟨#[]⟩, .int .i64 a] 39 (0, 0)) := blk_below (by apply blk_to; (· (repeat (first | (with_reducible exact blk_new _ _) | (with_reducible exact blk_new2 _ _ _) | (with_reducible apply blk_drewN) | (with_reducible apply blk_drew) | (with_reducible apply blk_set) | (with_reducible apply blk_far (hp := n1)) | (with_reducible apply blk_far (hp := n2)) | (with_reducible apply blk_alloc) | (with_reducible exact blk_new2 _ _ _)))); (· rfl)) hb; have B44 : w1.heap[w.heap.size + 1]? = some (.cells #[.int .i64 0, .int .i64 0] 44 (0, 0)) := blk_below (by apply blk_to; (· (repeat (first | (with_reducible exact blk_new _ _) | (with_reducible exact blk_new2 _ _ _) | (with_reducible apply blk_drewN) | (with_reducible apply blk_drew) | (with_reducible apply blk_set) | (with_reducible apply blk_far (hp := n1)) | (with_reducible apply blk_far (hp := n2)) | (with_reducible apply blk_alloc) | (with_reducible exact blk_new2 _ _ _)))); (· rfl)) hb; have HB : Below w.heap.size w w1 := Below.trans (by repeat (with_reducible first | exact Below.refl _ _ | apply below_alloc | apply pw_below_drewN | apply below_drew1 | refine below_set ?_ g1 | refine below_set ?_ g2)) (hb.mono (by simp; omega)); clear hb; have a0 := (blk_cell B39 0).trans rfl; have a1 := (blk_cell B39 1).trans rfl; have a2 := (blk_cell B39 2).trans rfl; have b0 := (blk_cell B44 0).trans rfl; have b1 := (blk_cell B44 1).trans rfl; have f0 := blk_frozen B39 0; have f1 := blk_frozen B39 1; have f2 := blk_frozen B39 2; have d0 := blk_frozen B44 0; have d1 := blk_frozen B44 1; have B39 := Aside0.mk B39; have B44 := Aside0.mk B44; have HB := Aside0.mk HB))
  go_region
  go_wp2
  refine bodyPost_ret (results_list (rs := [.cell 4 39, .tmp 5, .cell 6 44]) rfl (by simp) (.cell w.heap.size 39 #[.int .i64 3, .string t, .int .i64 a] (0, 0) _ rfl (by apply blk_to; (· (repeat (first | (with_reducible exact B39.out) | (with_reducible exact B44.out) | (with_reducible exact blk_new _ _) | (with_reducible exact blk_new2 _ _ _) | (with_reducible apply blk_drewN) | (with_reducible apply blk_drew) | (with_reducible apply blk_set) | (with_reducible apply blk_far (hp := n1)) | (with_reducible apply blk_far (hp := n2)) | (with_reducible apply blk_alloc) | (with_reducible exact blk_new2 _ _ _)))); (· rfl)) Try.underlying39 rfl (by kernel_rfl) (.tmp (.cell (w.heap.size + 1) 44 #[.int .i64 pa, .int .i64 pe] (0, 0) _ rfl (by apply blk_to; (· (repeat (first | (with_reducible exact B39.out) | (with_reducible exact B44.out) | (with_reducible exact blk_new _ _) | (with_reducible exact blk_new2 _ _ _) | (with_reducible apply blk_drewN) | (with_reducible apply blk_drew) | (with_reducible apply blk_set) | (with_reducible apply blk_far (hp := n1)) | (with_reducible apply blk_far (hp := n2)) | (with_reducible apply blk_alloc) | (with_reducible exact blk_new2 _ _ _)))); (· rfl)) Try.underlying44 rfl (by kernel_rfl) .nil)))) rfl ?_
  exact ⟨rfl, (by repeat (with_reducible first | exact HB.out | exact Below.refl _ _ | apply below_alloc | apply pw_below_drewN | apply below_drew1 | refine below_set ?_ g1 | refine below_set ?_ g2))⟩

set_option maxHeartbeats 1000000 in
set_option maxRecDepth 100000 in
theorem word_quote_ok (k : Nat) (s : ByteArray) (a : Int) (t : ByteArray) (e pa pe : Int) (w : World) (h0 : 0 ≤ a) (h1 : a < (s.size : Int)) (hl : words_letter.f (bt s a) = some false) (hd : words_digit.f (bt s a) = some false) (hc34 : bt s a = 34) (hq : words_quoted.f k s a = some (t, e, pa, pe)) (hpe : pe = 0) (h4 : (t.size : Int) ≤ 60) :
    Calls Try.prog 30 #[.string s, .int .i64 a] w fun q w' => q = .returned (.tuple #[.agg #[.int .i64 3, .string t, .int .i64 a], .int .i64 e, .agg #[.int .i64 pa, .int .i64 pe]]) ∧ Below w.heap.size w w' := by
  have HL := Aside0.mk hl
  have HD := Aside0.mk hd
  have HQ := Aside0.mk hq
  clear hl hd hq
  have e34 : (bt s a == 34) = true := beq_iff_eq.mpr hc34
  have f34 : (bt s a != 34) = false := bne_eq_false_iff_eq.mpr hc34
  have e45 : (bt s a == 45) = false := beq_eq_false_iff_ne.mpr (by omega)
  clear hc34
  have g34 : (pe == 0) = true := beq_iff_eq.mpr hpe
  have g35 : (pe != 0) = false := bne_eq_false_iff_eq.mpr hpe
  clear hpe
  have hu39 := Try.underlying39
  have hu44 := Try.underlying44
  have hx := bt_at s a
  have p5 := eq_true h0
  have q5 := eq_true h1
  have n1 : w.heap.size ≠ w.heap.size + 1 := by omega
  have n2 : w.heap.size + 1 ≠ w.heap.size := by omega
  have g1 : w.heap.size ≤ w.heap.size := by omega
  have g2 : w.heap.size ≤ w.heap.size + 1 := by omega
  go_enter Try.func30, Try.ntmps30
  go_wp2_with (first | (go_at_call 25; (with_reducible refine (words_letter.calls (bt s a) false _ HL.out).mono ?_); rintro e w' ⟨rfl, ⟨nd25, rfl⟩⟩) | (go_at_call 26; (with_reducible refine (words_digit.calls (bt s a) false _ HD.out).mono ?_); rintro e w' ⟨rfl, ⟨nd26, rfl⟩⟩) | (go_at_call 37; (with_reducible refine (words_quoted.calls k s a t e pa pe _ HQ.out).mono ?_); rintro q w1 ⟨rfl, hb⟩; have B39 : w1.heap[w.heap.size]? = some (.cells #[.int .i64 3, .string ⟨#[]⟩, .int .i64 a] 39 (0, 0)) := blk_below (by apply blk_to; (· (repeat (first | (with_reducible exact blk_new _ _) | (with_reducible exact blk_new2 _ _ _) | (with_reducible apply blk_drewN) | (with_reducible apply blk_drew) | (with_reducible apply blk_set) | (with_reducible apply blk_far (hp := n1)) | (with_reducible apply blk_far (hp := n2)) | (with_reducible apply blk_alloc) | (with_reducible exact blk_new2 _ _ _)))); (· rfl)) hb; have B44 : w1.heap[w.heap.size + 1]? = some (.cells #[.int .i64 0, .int .i64 0] 44 (0, 0)) := blk_below (by apply blk_to; (· (repeat (first | (with_reducible exact blk_new _ _) | (with_reducible exact blk_new2 _ _ _) | (with_reducible apply blk_drewN) | (with_reducible apply blk_drew) | (with_reducible apply blk_set) | (with_reducible apply blk_far (hp := n1)) | (with_reducible apply blk_far (hp := n2)) | (with_reducible apply blk_alloc) | (with_reducible exact blk_new2 _ _ _)))); (· rfl)) hb; have HB : Below w.heap.size w w1 := Below.trans (by repeat (with_reducible first | exact Below.refl _ _ | apply below_alloc | apply pw_below_drewN | apply below_drew1 | refine below_set ?_ g1 | refine below_set ?_ g2)) (hb.mono (by simp; omega)); clear hb; have a0 := (blk_cell B39 0).trans rfl; have a1 := (blk_cell B39 1).trans rfl; have a2 := (blk_cell B39 2).trans rfl; have b0 := (blk_cell B44 0).trans rfl; have b1 := (blk_cell B44 1).trans rfl; have f0 := blk_frozen B39 0; have f1 := blk_frozen B39 1; have f2 := blk_frozen B39 2; have d0 := blk_frozen B44 0; have d1 := blk_frozen B44 1; have B39 := Aside0.mk B39; have B44 := Aside0.mk B44; have HB := Aside0.mk HB))
  go_region
  go_wp2
  refine bodyPost_ret (results_list (rs := [.cell 4 39, .tmp 5, .cell 6 44]) rfl (by simp) (.cell w.heap.size 39 #[.int .i64 3, .string t, .int .i64 a] (0, 0) _ rfl (by apply blk_to; (· (repeat (first | (with_reducible exact B39.out) | (with_reducible exact B44.out) | (with_reducible exact blk_new _ _) | (with_reducible exact blk_new2 _ _ _) | (with_reducible apply blk_drewN) | (with_reducible apply blk_drew) | (with_reducible apply blk_set) | (with_reducible apply blk_far (hp := n1)) | (with_reducible apply blk_far (hp := n2)) | (with_reducible apply blk_alloc) | (with_reducible exact blk_new2 _ _ _)))); (· rfl)) Try.underlying39 rfl (by kernel_rfl) (.tmp (.cell (w.heap.size + 1) 44 #[.int .i64 pa, .int .i64 pe] (0, 0) _ rfl (by apply blk_to; (· (repeat (first | (with_reducible exact B39.out) | (with_reducible exact B44.out) | (with_reducible exact blk_new _ _) | (with_reducible exact blk_new2 _ _ _) | (with_reducible apply blk_drewN) | (with_reducible apply blk_drew) | (with_reducible apply blk_set) | (with_reducible apply blk_far (hp := n1)) | (with_reducible apply blk_far (hp := n2)) | (with_reducible apply blk_alloc) | (with_reducible exact blk_new2 _ _ _)))); (· rfl)) Try.underlying44 rfl (by kernel_rfl) .nil)))) rfl ?_
  exact ⟨rfl, (by repeat (with_reducible first | exact HB.out | exact Below.refl _ _ | apply below_alloc | apply pw_below_drewN | apply below_drew1 | refine below_set ?_ g1 | refine below_set ?_ g2))⟩

set_option maxHeartbeats 1000000 in
set_option maxRecDepth 100000 in
theorem word_quote_big (k : Nat) (s : ByteArray) (a : Int) (t : ByteArray) (e pa pe : Int) (w : World) (h0 : 0 ≤ a) (h1 : a < (s.size : Int)) (hl : words_letter.f (bt s a) = some false) (hd : words_digit.f (bt s a) = some false) (hc34 : bt s a = 34) (hq : words_quoted.f k s a = some (t, e, pa, pe)) (hpe : pe = 0) (h4 : (t.size : Int) > 60) :
    Calls Try.prog 30 #[.string s, .int .i64 a] w fun q w' => q = .returned (.tuple #[.agg #[.int .i64 3, .string t, .int .i64 a], .int .i64 e, .agg #[.int .i64 a, .int .i64 9]]) ∧ Below w.heap.size w w' := by
  have HL := Aside0.mk hl
  have HD := Aside0.mk hd
  have HQ := Aside0.mk hq
  clear hl hd hq
  have e34 : (bt s a == 34) = true := beq_iff_eq.mpr hc34
  have f34 : (bt s a != 34) = false := bne_eq_false_iff_eq.mpr hc34
  have e45 : (bt s a == 45) = false := beq_eq_false_iff_ne.mpr (by omega)
  clear hc34
  have g34 : (pe == 0) = true := beq_iff_eq.mpr hpe
  have g35 : (pe != 0) = false := bne_eq_false_iff_eq.mpr hpe
  clear hpe
  have hu39 := Try.underlying39
  have hu44 := Try.underlying44
  have hx := bt_at s a
  have p5 := eq_true h0
  have q5 := eq_true h1
  have n1 : w.heap.size ≠ w.heap.size + 1 := by omega
  have n2 : w.heap.size + 1 ≠ w.heap.size := by omega
  have g1 : w.heap.size ≤ w.heap.size := by omega
  have g2 : w.heap.size ≤ w.heap.size + 1 := by omega
  go_enter Try.func30, Try.ntmps30
  go_wp2_with (first | (go_at_call 25; (with_reducible refine (words_letter.calls (bt s a) false _ HL.out).mono ?_); rintro e w' ⟨rfl, ⟨nd25, rfl⟩⟩) | (go_at_call 26; (with_reducible refine (words_digit.calls (bt s a) false _ HD.out).mono ?_); rintro e w' ⟨rfl, ⟨nd26, rfl⟩⟩) | (go_at_call 37; (with_reducible refine (words_quoted.calls k s a t e pa pe _ HQ.out).mono ?_); rintro q w1 ⟨rfl, hb⟩; have B39 : w1.heap[w.heap.size]? = some (.cells #[.int .i64 3, .string ⟨#[]⟩, .int .i64 a] 39 (0, 0)) := blk_below (by apply blk_to; (· (repeat (first | (with_reducible exact blk_new _ _) | (with_reducible exact blk_new2 _ _ _) | (with_reducible apply blk_drewN) | (with_reducible apply blk_drew) | (with_reducible apply blk_set) | (with_reducible apply blk_far (hp := n1)) | (with_reducible apply blk_far (hp := n2)) | (with_reducible apply blk_alloc) | (with_reducible exact blk_new2 _ _ _)))); (· rfl)) hb; have B44 : w1.heap[w.heap.size + 1]? = some (.cells #[.int .i64 0, .int .i64 0] 44 (0, 0)) := blk_below (by apply blk_to; (· (repeat (first | (with_reducible exact blk_new _ _) | (with_reducible exact blk_new2 _ _ _) | (with_reducible apply blk_drewN) | (with_reducible apply blk_drew) | (with_reducible apply blk_set) | (with_reducible apply blk_far (hp := n1)) | (with_reducible apply blk_far (hp := n2)) | (with_reducible apply blk_alloc) | (with_reducible exact blk_new2 _ _ _)))); (· rfl)) hb; have HB : Below w.heap.size w w1 := Below.trans (by repeat (with_reducible first | exact Below.refl _ _ | apply below_alloc | apply pw_below_drewN | apply below_drew1 | refine below_set ?_ g1 | refine below_set ?_ g2)) (hb.mono (by simp; omega)); clear hb; have a0 := (blk_cell B39 0).trans rfl; have a1 := (blk_cell B39 1).trans rfl; have a2 := (blk_cell B39 2).trans rfl; have b0 := (blk_cell B44 0).trans rfl; have b1 := (blk_cell B44 1).trans rfl; have f0 := blk_frozen B39 0; have f1 := blk_frozen B39 1; have f2 := blk_frozen B39 2; have d0 := blk_frozen B44 0; have d1 := blk_frozen B44 1; have B39 := Aside0.mk B39; have B44 := Aside0.mk B44; have HB := Aside0.mk HB))
  refine with_world (P := fun x => Code.wp _ _ _ _ x) _ ?_
  intro w2 hw
  have B39' : w2.heap[w.heap.size]? = some (.cells #[.int .i64 3, .string t, .int .i64 a] 39 (0, 0)) := by rw [hw]; exact (by apply blk_to; (· (repeat (first | (with_reducible exact B39.out) | (with_reducible exact B44.out) | (with_reducible exact blk_new _ _) | (with_reducible exact blk_new2 _ _ _) | (with_reducible apply blk_drewN) | (with_reducible apply blk_drew) | (with_reducible apply blk_set) | (with_reducible apply blk_far (hp := n1)) | (with_reducible apply blk_far (hp := n2)) | (with_reducible apply blk_alloc) | (with_reducible exact blk_new2 _ _ _)))); (· rfl))
  have B44' : w2.heap[w.heap.size + 1]? = some (.cells #[.int .i64 a, .int .i64 9] 44 (0, 0)) := by rw [hw]; exact (by apply blk_to; (· (repeat (first | (with_reducible exact B39.out) | (with_reducible exact B44.out) | (with_reducible exact blk_new _ _) | (with_reducible exact blk_new2 _ _ _) | (with_reducible apply blk_drewN) | (with_reducible apply blk_drew) | (with_reducible apply blk_set) | (with_reducible apply blk_far (hp := n1)) | (with_reducible apply blk_far (hp := n2)) | (with_reducible apply blk_alloc) | (with_reducible exact blk_new2 _ _ _)))); (· rfl))
  have HB' : Below w.heap.size w w2 := by rw [hw]; exact (by repeat (with_reducible first | exact HB.out | exact Below.refl _ _ | apply below_alloc | apply pw_below_drewN | apply below_drew1 | refine below_set ?_ g1 | refine below_set ?_ g2))
  clear hw HB B39 B44 a0 a1 a2 b0 b1 f0 f1 f2 d0 d1
  have a0 := (blk_cell B39' 0).trans rfl
  have a1 := (blk_cell B39' 1).trans rfl
  have a2 := (blk_cell B39' 2).trans rfl
  have b0 := (blk_cell B44' 0).trans rfl
  have b1 := (blk_cell B44' 1).trans rfl
  have f0 := blk_frozen B39' 0
  have f1 := blk_frozen B39' 1
  have f2 := blk_frozen B39' 2
  have d0 := blk_frozen B44' 0
  have d1 := blk_frozen B44' 1
  have B39 := Aside0.mk B39'
  have B44 := Aside0.mk B44'
  have HB := Aside0.mk HB'
  clear B39' B44' HB'
  go_region
  go_wp2
  refine bodyPost_ret (results_list (rs := [.cell 4 39, .tmp 5, .cell 6 44]) rfl (by simp) (.cell w.heap.size 39 #[.int .i64 3, .string t, .int .i64 a] (0, 0) _ rfl (by apply blk_to; (· (repeat (first | (with_reducible exact B39.out) | (with_reducible exact B44.out) | (with_reducible exact blk_new _ _) | (with_reducible exact blk_new2 _ _ _) | (with_reducible apply blk_drewN) | (with_reducible apply blk_drew) | (with_reducible apply blk_set) | (with_reducible apply blk_far (hp := n1)) | (with_reducible apply blk_far (hp := n2)) | (with_reducible apply blk_alloc) | (with_reducible exact blk_new2 _ _ _)))); (· rfl)) Try.underlying39 rfl (by kernel_rfl) (.tmp (.cell (w.heap.size + 1) 44 #[.int .i64 a, .int .i64 9] (0, 0) _ rfl (by apply blk_to; (· (repeat (first | (with_reducible exact B39.out) | (with_reducible exact B44.out) | (with_reducible exact blk_new _ _) | (with_reducible exact blk_new2 _ _ _) | (with_reducible apply blk_drewN) | (with_reducible apply blk_drew) | (with_reducible apply blk_set) | (with_reducible apply blk_far (hp := n1)) | (with_reducible apply blk_far (hp := n2)) | (with_reducible apply blk_alloc) | (with_reducible exact blk_new2 _ _ _)))); (· rfl)) Try.underlying44 rfl (by kernel_rfl) .nil)))) rfl ?_
  exact ⟨rfl, (by repeat (with_reducible first | exact HB.out | exact Below.refl _ _ | apply below_alloc | apply pw_below_drewN | apply below_drew1 | refine below_set ?_ g1 | refine below_set ?_ g2))⟩

set_option maxHeartbeats 1000000 in
set_option maxRecDepth 100000 in
theorem word_signm_ok (k : Nat) (s : ByteArray) (a e : Int) (w : World) (h0 : 0 ≤ a) (h1 : a < (s.size : Int)) (hl : words_letter.f (bt s a) = some false) (hd : words_digit.f (bt s a) = some false) (hc45 : bt s a = 45) (ht : words_digitAt.f s (wrap64 (a + 1)) = some false) (hn : words_signEnd.f k s a = some e) (hne : ¬ e = a) (h2 : a ≤ e) (h3 : e ≤ (s.size : Int)) (h4 : ((e.toNat - a.toNat : Nat) : Int) ≤ 60) :
    Calls Try.prog 30 #[.string s, .int .i64 a] w fun q w' => q = .returned (.tuple #[.agg #[.int .i64 4, .string (s.extract a.toNat e.toNat), .int .i64 a], .int .i64 e, .agg #[.int .i64 0, .int .i64 0]]) ∧ Below w.heap.size w w' := by
  have HL := Aside0.mk hl
  clear hl
  have HD := Aside0.mk hd
  clear hd
  have HT := Aside0.mk ht
  clear ht
  have HN := Aside0.mk hn
  clear hn
  have hu39 := Try.underlying39
  have hu44 := Try.underlying44
  have e45 : (bt s a == 45) = true := beq_iff_eq.mpr hc45
  have f45 : (bt s a != 45) = false := bne_eq_false_iff_eq.mpr hc45
  have e34 : (bt s a == 34) = false := beq_eq_false_iff_ne.mpr (by omega)
  clear hc45
  have en : (e == a) = false := beq_eq_false_iff_ne.mpr hne
  clear hne
  have hx := bt_at s a
  have p5 := eq_true h0
  have q5 := eq_true h1
  go_enter Try.func30, Try.ntmps30
  go_wp2_with (first | (go_at_call 25; (with_reducible refine (words_letter.calls (bt s a) false _ HL.out).mono ?_); rintro e w' ⟨rfl, ⟨nd25, rfl⟩⟩) | (go_at_call 26; (with_reducible refine (words_digit.calls (bt s a) false _ HD.out).mono ?_); rintro e w' ⟨rfl, ⟨nd26, rfl⟩⟩) | (go_at_call 35; (with_reducible refine (words_digitAt.calls s (wrap64 (a + 1)) false _ HT.out).mono ?_); rintro e w' ⟨rfl, ⟨nd35, rfl⟩⟩) | (go_at_call 38; (with_reducible refine (words_signEnd.calls k s a e _ HN.out).mono ?_); rintro e w' ⟨rfl, ⟨nd38, rfl⟩⟩))
  go_region
  go_wp2
  have n1 : w.heap.size ≠ w.heap.size + 1 := by omega
  have n2 : w.heap.size + 1 ≠ w.heap.size := by omega
  have g1 : w.heap.size ≤ w.heap.size := by omega
  have g2 : w.heap.size ≤ w.heap.size + 1 := by omega
  refine bodyPost_ret (results_list (rs := [.cell 4 39, .tmp 5, .cell 6 44]) rfl (by simp) (.cell w.heap.size 39 #[.int .i64 4, .string (s.extract a.toNat e.toNat), .int .i64 a] (0, 0) _ rfl (by apply blk_to; (· (repeat (first | (with_reducible exact blk_new _ _) | (with_reducible exact blk_new2 _ _ _) | (with_reducible apply blk_drewN) | (with_reducible apply blk_drew) | (with_reducible apply blk_set) | (with_reducible apply blk_far (hp := n1)) | (with_reducible apply blk_far (hp := n2)) | (with_reducible apply blk_alloc) | (with_reducible exact blk_new2 _ _ _)))); (· rfl)) Try.underlying39 rfl (by kernel_rfl) (.tmp (.cell (w.heap.size + 1) 44 #[.int .i64 0, .int .i64 0] (0, 0) _ rfl (by apply blk_to; (· (repeat (first | (with_reducible exact blk_new _ _) | (with_reducible exact blk_new2 _ _ _) | (with_reducible apply blk_drewN) | (with_reducible apply blk_drew) | (with_reducible apply blk_set) | (with_reducible apply blk_far (hp := n1)) | (with_reducible apply blk_far (hp := n2)) | (with_reducible apply blk_alloc) | (with_reducible exact blk_new2 _ _ _)))); (· rfl)) Try.underlying44 rfl (by kernel_rfl) .nil)))) rfl ?_
  exact ⟨rfl, (by repeat (with_reducible first | exact Below.refl _ _ | apply below_alloc | apply pw_below_drewN | apply below_drew1 | refine below_set ?_ g1 | refine below_set ?_ g2))⟩

set_option maxHeartbeats 1000000 in
set_option maxRecDepth 100000 in
theorem word_signm_big (k : Nat) (s : ByteArray) (a e : Int) (w : World) (h0 : 0 ≤ a) (h1 : a < (s.size : Int)) (hl : words_letter.f (bt s a) = some false) (hd : words_digit.f (bt s a) = some false) (hc45 : bt s a = 45) (ht : words_digitAt.f s (wrap64 (a + 1)) = some false) (hn : words_signEnd.f k s a = some e) (hne : ¬ e = a) (h2 : a ≤ e) (h3 : e ≤ (s.size : Int)) (h4 : ((e.toNat - a.toNat : Nat) : Int) > 60) :
    Calls Try.prog 30 #[.string s, .int .i64 a] w fun q w' => q = .returned (.tuple #[.agg #[.int .i64 4, .string (s.extract a.toNat e.toNat), .int .i64 a], .int .i64 e, .agg #[.int .i64 a, .int .i64 9]]) ∧ Below w.heap.size w w' := by
  have HL := Aside0.mk hl
  clear hl
  have HD := Aside0.mk hd
  clear hd
  have HT := Aside0.mk ht
  clear ht
  have HN := Aside0.mk hn
  clear hn
  have hu39 := Try.underlying39
  have hu44 := Try.underlying44
  have e45 : (bt s a == 45) = true := beq_iff_eq.mpr hc45
  have f45 : (bt s a != 45) = false := bne_eq_false_iff_eq.mpr hc45
  have e34 : (bt s a == 34) = false := beq_eq_false_iff_ne.mpr (by omega)
  clear hc45
  have en : (e == a) = false := beq_eq_false_iff_ne.mpr hne
  clear hne
  have hx := bt_at s a
  have p5 := eq_true h0
  have q5 := eq_true h1
  go_enter Try.func30, Try.ntmps30
  go_wp2_with (first | (go_at_call 25; (with_reducible refine (words_letter.calls (bt s a) false _ HL.out).mono ?_); rintro e w' ⟨rfl, ⟨nd25, rfl⟩⟩) | (go_at_call 26; (with_reducible refine (words_digit.calls (bt s a) false _ HD.out).mono ?_); rintro e w' ⟨rfl, ⟨nd26, rfl⟩⟩) | (go_at_call 35; (with_reducible refine (words_digitAt.calls s (wrap64 (a + 1)) false _ HT.out).mono ?_); rintro e w' ⟨rfl, ⟨nd35, rfl⟩⟩) | (go_at_call 38; (with_reducible refine (words_signEnd.calls k s a e _ HN.out).mono ?_); rintro e w' ⟨rfl, ⟨nd38, rfl⟩⟩))
  go_region
  go_wp2
  have n1 : w.heap.size ≠ w.heap.size + 1 := by omega
  have n2 : w.heap.size + 1 ≠ w.heap.size := by omega
  have g1 : w.heap.size ≤ w.heap.size := by omega
  have g2 : w.heap.size ≤ w.heap.size + 1 := by omega
  refine bodyPost_ret (results_list (rs := [.cell 4 39, .tmp 5, .cell 6 44]) rfl (by simp) (.cell w.heap.size 39 #[.int .i64 4, .string (s.extract a.toNat e.toNat), .int .i64 a] (0, 0) _ rfl (by apply blk_to; (· (repeat (first | (with_reducible exact blk_new _ _) | (with_reducible exact blk_new2 _ _ _) | (with_reducible apply blk_drewN) | (with_reducible apply blk_drew) | (with_reducible apply blk_set) | (with_reducible apply blk_far (hp := n1)) | (with_reducible apply blk_far (hp := n2)) | (with_reducible apply blk_alloc) | (with_reducible exact blk_new2 _ _ _)))); (· rfl)) Try.underlying39 rfl (by kernel_rfl) (.tmp (.cell (w.heap.size + 1) 44 #[.int .i64 a, .int .i64 9] (0, 0) _ rfl (by apply blk_to; (· (repeat (first | (with_reducible exact blk_new _ _) | (with_reducible exact blk_new2 _ _ _) | (with_reducible apply blk_drewN) | (with_reducible apply blk_drew) | (with_reducible apply blk_set) | (with_reducible apply blk_far (hp := n1)) | (with_reducible apply blk_far (hp := n2)) | (with_reducible apply blk_alloc) | (with_reducible exact blk_new2 _ _ _)))); (· rfl)) Try.underlying44 rfl (by kernel_rfl) .nil)))) rfl ?_
  exact ⟨rfl, (by repeat (with_reducible first | exact Below.refl _ _ | apply below_alloc | apply pw_below_drewN | apply below_drew1 | refine below_set ?_ g1 | refine below_set ?_ g2))⟩

set_option maxHeartbeats 1000000 in
set_option maxRecDepth 100000 in
theorem word_signm_no (k : Nat) (s : ByteArray) (a e : Int) (w : World) (h0 : 0 ≤ a) (h1 : a < (s.size : Int)) (hl : words_letter.f (bt s a) = some false) (hd : words_digit.f (bt s a) = some false) (hc45 : bt s a = 45) (ht : words_digitAt.f s (wrap64 (a + 1)) = some false) (hn : words_signEnd.f k s a = some e) (hne : e = a) :
    Calls Try.prog 30 #[.string s, .int .i64 a] w fun q w' => q = .returned (.tuple #[.agg #[.int .i64 4, .string (⟨#[]⟩ : ByteArray), .int .i64 a], .int .i64 e, .agg #[.int .i64 a, .int .i64 5]]) ∧ Below w.heap.size w w' := by
  have HL := Aside0.mk hl
  clear hl
  have HD := Aside0.mk hd
  clear hd
  have HT := Aside0.mk ht
  clear ht
  have HN := Aside0.mk hn
  clear hn
  have hu39 := Try.underlying39
  have hu44 := Try.underlying44
  have e45 : (bt s a == 45) = true := beq_iff_eq.mpr hc45
  have f45 : (bt s a != 45) = false := bne_eq_false_iff_eq.mpr hc45
  have e34 : (bt s a == 34) = false := beq_eq_false_iff_ne.mpr (by omega)
  clear hc45
  have en : (e == a) = true := beq_iff_eq.mpr hne
  clear hne
  have hx := bt_at s a
  have p5 := eq_true h0
  have q5 := eq_true h1
  go_enter Try.func30, Try.ntmps30
  go_wp2_with (first | (go_at_call 25; (with_reducible refine (words_letter.calls (bt s a) false _ HL.out).mono ?_); rintro e w' ⟨rfl, ⟨nd25, rfl⟩⟩) | (go_at_call 26; (with_reducible refine (words_digit.calls (bt s a) false _ HD.out).mono ?_); rintro e w' ⟨rfl, ⟨nd26, rfl⟩⟩) | (go_at_call 35; (with_reducible refine (words_digitAt.calls s (wrap64 (a + 1)) false _ HT.out).mono ?_); rintro e w' ⟨rfl, ⟨nd35, rfl⟩⟩) | (go_at_call 38; (with_reducible refine (words_signEnd.calls k s a e _ HN.out).mono ?_); rintro e w' ⟨rfl, ⟨nd38, rfl⟩⟩))
  go_wp2
  have n1 : w.heap.size ≠ w.heap.size + 1 := by omega
  have n2 : w.heap.size + 1 ≠ w.heap.size := by omega
  have g1 : w.heap.size ≤ w.heap.size := by omega
  have g2 : w.heap.size ≤ w.heap.size + 1 := by omega
  refine bodyPost_ret (results_list (rs := [.cell 4 39, .tmp 5, .cell 6 44]) rfl (by simp) (.cell w.heap.size 39 #[.int .i64 4, .string (⟨#[]⟩ : ByteArray), .int .i64 a] (0, 0) _ rfl (by apply blk_to; (· (repeat (first | (with_reducible exact blk_new _ _) | (with_reducible exact blk_new2 _ _ _) | (with_reducible apply blk_drewN) | (with_reducible apply blk_drew) | (with_reducible apply blk_set) | (with_reducible apply blk_far (hp := n1)) | (with_reducible apply blk_far (hp := n2)) | (with_reducible apply blk_alloc) | (with_reducible exact blk_new2 _ _ _)))); (· rfl)) Try.underlying39 rfl (by kernel_rfl) (.tmp (.cell (w.heap.size + 1) 44 #[.int .i64 a, .int .i64 5] (0, 0) _ rfl (by apply blk_to; (· (repeat (first | (with_reducible exact blk_new _ _) | (with_reducible exact blk_new2 _ _ _) | (with_reducible apply blk_drewN) | (with_reducible apply blk_drew) | (with_reducible apply blk_set) | (with_reducible apply blk_far (hp := n1)) | (with_reducible apply blk_far (hp := n2)) | (with_reducible apply blk_alloc) | (with_reducible exact blk_new2 _ _ _)))); (· rfl)) Try.underlying44 rfl (by kernel_rfl) .nil)))) rfl ?_
  exact ⟨rfl, (by repeat (with_reducible first | exact Below.refl _ _ | apply below_alloc | apply pw_below_drewN | apply below_drew1 | refine below_set ?_ g1 | refine below_set ?_ g2))⟩

set_option maxHeartbeats 1000000 in
set_option maxRecDepth 100000 in
theorem word_signo_ok (k : Nat) (s : ByteArray) (a e : Int) (w : World) (h0 : 0 ≤ a) (h1 : a < (s.size : Int)) (hl : words_letter.f (bt s a) = some false) (hd : words_digit.f (bt s a) = some false) (hc45 : ¬ bt s a = 45) (hc34 : ¬ bt s a = 34) (hn : words_signEnd.f k s a = some e) (hne : ¬ e = a) (h2 : a ≤ e) (h3 : e ≤ (s.size : Int)) (h4 : ((e.toNat - a.toNat : Nat) : Int) ≤ 60) :
    Calls Try.prog 30 #[.string s, .int .i64 a] w fun q w' => q = .returned (.tuple #[.agg #[.int .i64 4, .string (s.extract a.toNat e.toNat), .int .i64 a], .int .i64 e, .agg #[.int .i64 0, .int .i64 0]]) ∧ Below w.heap.size w w' := by
  have HL := Aside0.mk hl
  clear hl
  have HD := Aside0.mk hd
  clear hd
  have HN := Aside0.mk hn
  clear hn
  have hu39 := Try.underlying39
  have hu44 := Try.underlying44
  have e45 : (bt s a == 45) = false := beq_eq_false_iff_ne.mpr hc45
  have f45 : (bt s a != 45) = true := bne_iff_ne.mpr hc45
  clear hc45
  have e34 : (bt s a == 34) = false := beq_eq_false_iff_ne.mpr hc34
  have f34 : (bt s a != 34) = true := bne_iff_ne.mpr hc34
  clear hc34
  have en : (e == a) = false := beq_eq_false_iff_ne.mpr hne
  clear hne
  have hx := bt_at s a
  have p5 := eq_true h0
  have q5 := eq_true h1
  go_enter Try.func30, Try.ntmps30
  go_wp2_with (first | (go_at_call 25; (with_reducible refine (words_letter.calls (bt s a) false _ HL.out).mono ?_); rintro e w' ⟨rfl, ⟨nd25, rfl⟩⟩) | (go_at_call 26; (with_reducible refine (words_digit.calls (bt s a) false _ HD.out).mono ?_); rintro e w' ⟨rfl, ⟨nd26, rfl⟩⟩) | (go_at_call 38; (with_reducible refine (words_signEnd.calls k s a e _ HN.out).mono ?_); rintro e w' ⟨rfl, ⟨nd38, rfl⟩⟩))
  go_region
  go_wp2
  have n1 : w.heap.size ≠ w.heap.size + 1 := by omega
  have n2 : w.heap.size + 1 ≠ w.heap.size := by omega
  have g1 : w.heap.size ≤ w.heap.size := by omega
  have g2 : w.heap.size ≤ w.heap.size + 1 := by omega
  refine bodyPost_ret (results_list (rs := [.cell 4 39, .tmp 5, .cell 6 44]) rfl (by simp) (.cell w.heap.size 39 #[.int .i64 4, .string (s.extract a.toNat e.toNat), .int .i64 a] (0, 0) _ rfl (by apply blk_to; (· (repeat (first | (with_reducible exact blk_new _ _) | (with_reducible exact blk_new2 _ _ _) | (with_reducible apply blk_drewN) | (with_reducible apply blk_drew) | (with_reducible apply blk_set) | (with_reducible apply blk_far (hp := n1)) | (with_reducible apply blk_far (hp := n2)) | (with_reducible apply blk_alloc) | (with_reducible exact blk_new2 _ _ _)))); (· rfl)) Try.underlying39 rfl (by kernel_rfl) (.tmp (.cell (w.heap.size + 1) 44 #[.int .i64 0, .int .i64 0] (0, 0) _ rfl (by apply blk_to; (· (repeat (first | (with_reducible exact blk_new _ _) | (with_reducible exact blk_new2 _ _ _) | (with_reducible apply blk_drewN) | (with_reducible apply blk_drew) | (with_reducible apply blk_set) | (with_reducible apply blk_far (hp := n1)) | (with_reducible apply blk_far (hp := n2)) | (with_reducible apply blk_alloc) | (with_reducible exact blk_new2 _ _ _)))); (· rfl)) Try.underlying44 rfl (by kernel_rfl) .nil)))) rfl ?_
  exact ⟨rfl, (by repeat (with_reducible first | exact Below.refl _ _ | apply below_alloc | apply pw_below_drewN | apply below_drew1 | refine below_set ?_ g1 | refine below_set ?_ g2))⟩

set_option maxHeartbeats 1000000 in
set_option maxRecDepth 100000 in
theorem word_signo_big (k : Nat) (s : ByteArray) (a e : Int) (w : World) (h0 : 0 ≤ a) (h1 : a < (s.size : Int)) (hl : words_letter.f (bt s a) = some false) (hd : words_digit.f (bt s a) = some false) (hc45 : ¬ bt s a = 45) (hc34 : ¬ bt s a = 34) (hn : words_signEnd.f k s a = some e) (hne : ¬ e = a) (h2 : a ≤ e) (h3 : e ≤ (s.size : Int)) (h4 : ((e.toNat - a.toNat : Nat) : Int) > 60) :
    Calls Try.prog 30 #[.string s, .int .i64 a] w fun q w' => q = .returned (.tuple #[.agg #[.int .i64 4, .string (s.extract a.toNat e.toNat), .int .i64 a], .int .i64 e, .agg #[.int .i64 a, .int .i64 9]]) ∧ Below w.heap.size w w' := by
  have HL := Aside0.mk hl
  clear hl
  have HD := Aside0.mk hd
  clear hd
  have HN := Aside0.mk hn
  clear hn
  have hu39 := Try.underlying39
  have hu44 := Try.underlying44
  have e45 : (bt s a == 45) = false := beq_eq_false_iff_ne.mpr hc45
  have f45 : (bt s a != 45) = true := bne_iff_ne.mpr hc45
  clear hc45
  have e34 : (bt s a == 34) = false := beq_eq_false_iff_ne.mpr hc34
  have f34 : (bt s a != 34) = true := bne_iff_ne.mpr hc34
  clear hc34
  have en : (e == a) = false := beq_eq_false_iff_ne.mpr hne
  clear hne
  have hx := bt_at s a
  have p5 := eq_true h0
  have q5 := eq_true h1
  go_enter Try.func30, Try.ntmps30
  go_wp2_with (first | (go_at_call 25; (with_reducible refine (words_letter.calls (bt s a) false _ HL.out).mono ?_); rintro e w' ⟨rfl, ⟨nd25, rfl⟩⟩) | (go_at_call 26; (with_reducible refine (words_digit.calls (bt s a) false _ HD.out).mono ?_); rintro e w' ⟨rfl, ⟨nd26, rfl⟩⟩) | (go_at_call 38; (with_reducible refine (words_signEnd.calls k s a e _ HN.out).mono ?_); rintro e w' ⟨rfl, ⟨nd38, rfl⟩⟩))
  go_region
  go_wp2
  have n1 : w.heap.size ≠ w.heap.size + 1 := by omega
  have n2 : w.heap.size + 1 ≠ w.heap.size := by omega
  have g1 : w.heap.size ≤ w.heap.size := by omega
  have g2 : w.heap.size ≤ w.heap.size + 1 := by omega
  refine bodyPost_ret (results_list (rs := [.cell 4 39, .tmp 5, .cell 6 44]) rfl (by simp) (.cell w.heap.size 39 #[.int .i64 4, .string (s.extract a.toNat e.toNat), .int .i64 a] (0, 0) _ rfl (by apply blk_to; (· (repeat (first | (with_reducible exact blk_new _ _) | (with_reducible exact blk_new2 _ _ _) | (with_reducible apply blk_drewN) | (with_reducible apply blk_drew) | (with_reducible apply blk_set) | (with_reducible apply blk_far (hp := n1)) | (with_reducible apply blk_far (hp := n2)) | (with_reducible apply blk_alloc) | (with_reducible exact blk_new2 _ _ _)))); (· rfl)) Try.underlying39 rfl (by kernel_rfl) (.tmp (.cell (w.heap.size + 1) 44 #[.int .i64 a, .int .i64 9] (0, 0) _ rfl (by apply blk_to; (· (repeat (first | (with_reducible exact blk_new _ _) | (with_reducible exact blk_new2 _ _ _) | (with_reducible apply blk_drewN) | (with_reducible apply blk_drew) | (with_reducible apply blk_set) | (with_reducible apply blk_far (hp := n1)) | (with_reducible apply blk_far (hp := n2)) | (with_reducible apply blk_alloc) | (with_reducible exact blk_new2 _ _ _)))); (· rfl)) Try.underlying44 rfl (by kernel_rfl) .nil)))) rfl ?_
  exact ⟨rfl, (by repeat (with_reducible first | exact Below.refl _ _ | apply below_alloc | apply pw_below_drewN | apply below_drew1 | refine below_set ?_ g1 | refine below_set ?_ g2))⟩

set_option maxHeartbeats 1000000 in
set_option maxRecDepth 100000 in
theorem word_signo_no (k : Nat) (s : ByteArray) (a e : Int) (w : World) (h0 : 0 ≤ a) (h1 : a < (s.size : Int)) (hl : words_letter.f (bt s a) = some false) (hd : words_digit.f (bt s a) = some false) (hc45 : ¬ bt s a = 45) (hc34 : ¬ bt s a = 34) (hn : words_signEnd.f k s a = some e) (hne : e = a) :
    Calls Try.prog 30 #[.string s, .int .i64 a] w fun q w' => q = .returned (.tuple #[.agg #[.int .i64 4, .string (⟨#[]⟩ : ByteArray), .int .i64 a], .int .i64 e, .agg #[.int .i64 a, .int .i64 5]]) ∧ Below w.heap.size w w' := by
  have HL := Aside0.mk hl
  clear hl
  have HD := Aside0.mk hd
  clear hd
  have HN := Aside0.mk hn
  clear hn
  have hu39 := Try.underlying39
  have hu44 := Try.underlying44
  have e45 : (bt s a == 45) = false := beq_eq_false_iff_ne.mpr hc45
  have f45 : (bt s a != 45) = true := bne_iff_ne.mpr hc45
  clear hc45
  have e34 : (bt s a == 34) = false := beq_eq_false_iff_ne.mpr hc34
  have f34 : (bt s a != 34) = true := bne_iff_ne.mpr hc34
  clear hc34
  have en : (e == a) = true := beq_iff_eq.mpr hne
  clear hne
  have hx := bt_at s a
  have p5 := eq_true h0
  have q5 := eq_true h1
  go_enter Try.func30, Try.ntmps30
  go_wp2_with (first | (go_at_call 25; (with_reducible refine (words_letter.calls (bt s a) false _ HL.out).mono ?_); rintro e w' ⟨rfl, ⟨nd25, rfl⟩⟩) | (go_at_call 26; (with_reducible refine (words_digit.calls (bt s a) false _ HD.out).mono ?_); rintro e w' ⟨rfl, ⟨nd26, rfl⟩⟩) | (go_at_call 38; (with_reducible refine (words_signEnd.calls k s a e _ HN.out).mono ?_); rintro e w' ⟨rfl, ⟨nd38, rfl⟩⟩))
  go_wp2
  have n1 : w.heap.size ≠ w.heap.size + 1 := by omega
  have n2 : w.heap.size + 1 ≠ w.heap.size := by omega
  have g1 : w.heap.size ≤ w.heap.size := by omega
  have g2 : w.heap.size ≤ w.heap.size + 1 := by omega
  refine bodyPost_ret (results_list (rs := [.cell 4 39, .tmp 5, .cell 6 44]) rfl (by simp) (.cell w.heap.size 39 #[.int .i64 4, .string (⟨#[]⟩ : ByteArray), .int .i64 a] (0, 0) _ rfl (by apply blk_to; (· (repeat (first | (with_reducible exact blk_new _ _) | (with_reducible exact blk_new2 _ _ _) | (with_reducible apply blk_drewN) | (with_reducible apply blk_drew) | (with_reducible apply blk_set) | (with_reducible apply blk_far (hp := n1)) | (with_reducible apply blk_far (hp := n2)) | (with_reducible apply blk_alloc) | (with_reducible exact blk_new2 _ _ _)))); (· rfl)) Try.underlying39 rfl (by kernel_rfl) (.tmp (.cell (w.heap.size + 1) 44 #[.int .i64 a, .int .i64 5] (0, 0) _ rfl (by apply blk_to; (· (repeat (first | (with_reducible exact blk_new _ _) | (with_reducible exact blk_new2 _ _ _) | (with_reducible apply blk_drewN) | (with_reducible apply blk_drew) | (with_reducible apply blk_set) | (with_reducible apply blk_far (hp := n1)) | (with_reducible apply blk_far (hp := n2)) | (with_reducible apply blk_alloc) | (with_reducible exact blk_new2 _ _ _)))); (· rfl)) Try.underlying44 rfl (by kernel_rfl) .nil)))) rfl ?_
  exact ⟨rfl, (by repeat (with_reducible first | exact Below.refl _ _ | apply below_alloc | apply pw_below_drewN | apply below_drew1 | refine below_set ?_ g1 | refine below_set ?_ g2))⟩

def words_word.fin (s : ByteArray) (a kind e most : Int) : Option (Int × ByteArray × Int × Int × Int × Int) :=
  if a ≤ e then if e ≤ (s.size : Int) then if ((e.toNat - a.toNat : Nat) : Int) ≤ most then some (kind, s.extract a.toNat e.toNat, a, e, 0, 0) else some (kind, s.extract a.toNat e.toNat, a, e, a, 9) else none else none
def words_word.sign (k : Nat) (s : ByteArray) (a : Int) : Option (Int × ByteArray × Int × Int × Int × Int) :=
  (words_signEnd.f k s a).bind fun e => if e = a then some (4, (⟨#[]⟩ : ByteArray), a, e, a, 5) else words_word.fin s a 4 e 60
def words_word.quote (k : Nat) (s : ByteArray) (a : Int) : Option (Int × ByteArray × Int × Int × Int × Int) :=
  (words_quoted.f k s a).bind fun q => if q.2.2.2 = 0 then (if (q.1.size : Int) ≤ 60 then some (3, q.1, a, q.2.1, q.2.2.1, q.2.2.2) else some (3, q.1, a, q.2.1, a, 9)) else some (3, q.1, a, q.2.1, q.2.2.1, q.2.2.2)
def words_word.number (k : Nat) (s : ByteArray) (a : Int) : Option (Int × ByteArray × Int × Int × Int × Int) := (words_numberEnd.f k s a).bind fun e => words_word.fin s a 2 e 60
def words_word.f (k : Nat) (s : ByteArray) (a : Int) : Option (Int × ByteArray × Int × Int × Int × Int) :=
  if 0 ≤ a then if a < (s.size : Int) then
    (words_letter.f (bt s a)).bind fun tl => if tl = true then (words_nameEnd.f k s a).bind fun e => words_word.fin s a 1 e 12
    else (words_digit.f (bt s a)).bind fun td => if td = true then words_word.number k s a
    else if bt s a = 45 then (words_digitAt.f s (wrap64 (a + 1))).bind fun tt => if tt = true then words_word.number k s a else words_word.sign k s a
    else if bt s a = 34 then words_word.quote k s a
    else words_word.sign k s a
  else none else none
theorem words_word.mono : ∀ a0 a1 k, LeO (words_word.f k a0 a1) (words_word.f (k + 1) a0 a1) := by
  intro a0 a1 k
  have ih1 := words_nameEnd.mono
  have ih2 := words_numberEnd.mono
  have ih3 := words_quoted.mono
  have ih4 := words_signEnd.mono
  unfold words_word.f words_word.number words_word.sign words_word.quote
  repeat' first
    | (with_reducible exact ih1 _ _ _)
    | (with_reducible exact ih2 _ _ _)
    | (with_reducible exact ih3 _ _ _)
    | (with_reducible exact ih4 _ _ _)
    | (with_reducible exact LeO.refl _)
    | (with_reducible exact LeO.none _)
    | (with_reducible refine LeO.ite ?_ ?_)
    | (with_reducible refine LeO.bind ?_ (fun _ => ?_))

theorem words_word.calls (k : Nat) (a0 : ByteArray) (a1 : Int) (r1 : Int) (r2 : ByteArray) (r3 : Int) (r4 : Int) (r5 : Int) (r6 : Int) (w : World) (h : words_word.f k a0 a1 = some (r1, r2, r3, r4, r5, r6)) :
    Calls Try.prog 30 #[.string a0, .int .i64 a1] w fun e w' => e = .returned (.tuple #[.agg #[.int .i64 r1, .string r2, .int .i64 r3], .int .i64 r4, .agg #[.int .i64 r5, .int .i64 r6]]) ∧ Below w.heap.size w w' := by
  unfold words_word.f at h
  by_cases h0 : 0 ≤ a1
  case neg => rw [if_neg h0] at h; simp at h
  rw [if_pos h0] at h
  by_cases h1 : a1 < (a0.size : Int)
  case neg => rw [if_neg h1] at h; simp at h
  rw [if_pos h1] at h
  obtain ⟨tl, hl, h⟩ := Option.bind_eq_some_iff.mp h
  cases tl
  case true =>
    simp only [if_true] at h
    obtain ⟨e, hn, h⟩ := Option.bind_eq_some_iff.mp h
    unfold words_word.fin at h
    by_cases h2 : a1 ≤ e
    case neg => rw [if_neg h2] at h; simp at h
    rw [if_pos h2] at h
    by_cases h3 : e ≤ (a0.size : Int)
    case neg => rw [if_neg h3] at h; simp at h
    rw [if_pos h3] at h
    split at h <;> rename_i h4
    · obtain ⟨rfl, rfl, rfl, rfl, rfl, rfl⟩ : 1 = r1 ∧ a0.extract a1.toNat e.toNat = r2 ∧ a1 = r3 ∧ e = r4 ∧ 0 = r5 ∧ 0 = r6 := by simpa using h
      exact word_letter_ok k a0 a1 e w h0 h1 hl hn h2 h3 h4
    · obtain ⟨rfl, rfl, rfl, rfl, rfl, rfl⟩ : 1 = r1 ∧ a0.extract a1.toNat e.toNat = r2 ∧ a1 = r3 ∧ e = r4 ∧ a1 = r5 ∧ 9 = r6 := by simpa using h
      exact word_letter_big k a0 a1 e w h0 h1 hl hn h2 h3 (by omega)
  simp only [if_neg (show ¬ (false = true) by decide)] at h
  obtain ⟨td, hd, h⟩ := Option.bind_eq_some_iff.mp h
  have fin_cases : ∀ (kind e : Int) (ok : ∀ (h2 : a1 ≤ e) (h3 : e ≤ (a0.size : Int)) (h4 : ((e.toNat - a1.toNat : Nat) : Int) ≤ 60), Calls Try.prog 30 #[.string a0, .int .i64 a1] w fun q w' => q = .returned (.tuple #[.agg #[.int .i64 kind, .string (a0.extract a1.toNat e.toNat), .int .i64 a1], .int .i64 e, .agg #[.int .i64 0, .int .i64 0]]) ∧ Below w.heap.size w w')
      (big : ∀ (h2 : a1 ≤ e) (h3 : e ≤ (a0.size : Int)) (h4 : ((e.toNat - a1.toNat : Nat) : Int) > 60), Calls Try.prog 30 #[.string a0, .int .i64 a1] w fun q w' => q = .returned (.tuple #[.agg #[.int .i64 kind, .string (a0.extract a1.toNat e.toNat), .int .i64 a1], .int .i64 e, .agg #[.int .i64 a1, .int .i64 9]]) ∧ Below w.heap.size w w')
      (h : words_word.fin a0 a1 kind e 60 = some (r1, r2, r3, r4, r5, r6)),
      Calls Try.prog 30 #[.string a0, .int .i64 a1] w fun e w' => e = .returned (.tuple #[.agg #[.int .i64 r1, .string r2, .int .i64 r3], .int .i64 r4, .agg #[.int .i64 r5, .int .i64 r6]]) ∧ Below w.heap.size w w' := by
    intro kind e ok big h
    unfold words_word.fin at h
    by_cases h2 : a1 ≤ e
    case neg => rw [if_neg h2] at h; simp at h
    rw [if_pos h2] at h
    by_cases h3 : e ≤ (a0.size : Int)
    case neg => rw [if_neg h3] at h; simp at h
    rw [if_pos h3] at h
    split at h <;> rename_i h4
    · obtain ⟨rfl, rfl, rfl, rfl, rfl, rfl⟩ : kind = r1 ∧ a0.extract a1.toNat e.toNat = r2 ∧ a1 = r3 ∧ e = r4 ∧ 0 = r5 ∧ 0 = r6 := by simpa using h
      exact ok h2 h3 h4
    · obtain ⟨rfl, rfl, rfl, rfl, rfl, rfl⟩ : kind = r1 ∧ a0.extract a1.toNat e.toNat = r2 ∧ a1 = r3 ∧ e = r4 ∧ a1 = r5 ∧ 9 = r6 := by simpa using h
      exact big h2 h3 (by omega)
  cases td
  case true =>
    simp only [if_true] at h
    unfold words_word.number at h
    obtain ⟨e, hn, h⟩ := Option.bind_eq_some_iff.mp h
    exact fin_cases 2 e (fun h2 h3 h4 => word_digit_ok k a0 a1 e w h0 h1 hl hd hn h2 h3 h4) (fun h2 h3 h4 => word_digit_big k a0 a1 e w h0 h1 hl hd hn h2 h3 h4) h
  simp only [if_neg (show ¬ (false = true) by decide)] at h
  by_cases hc45 : bt a0 a1 = 45
  · rw [if_pos hc45] at h
    obtain ⟨tt, ht, h⟩ := Option.bind_eq_some_iff.mp h
    cases tt
    case true =>
      simp only [if_true] at h
      unfold words_word.number at h
      obtain ⟨e, hn, h⟩ := Option.bind_eq_some_iff.mp h
      exact fin_cases 2 e (fun h2 h3 h4 => word_minus_ok k a0 a1 e w h0 h1 hl hd hc45 ht hn h2 h3 h4) (fun h2 h3 h4 => word_minus_big k a0 a1 e w h0 h1 hl hd hc45 ht hn h2 h3 h4) h
    simp only [if_neg (show ¬ (false = true) by decide)] at h
    unfold words_word.sign at h
    obtain ⟨e, hn, h⟩ := Option.bind_eq_some_iff.mp h
    by_cases hne : e = a1
    · rw [if_pos hne] at h
      obtain ⟨rfl, rfl, rfl, rfl, rfl, rfl⟩ : 4 = r1 ∧ (⟨#[]⟩ : ByteArray) = r2 ∧ a1 = r3 ∧ e = r4 ∧ a1 = r5 ∧ 5 = r6 := by simpa using h
      exact word_signm_no k a0 a1 e w h0 h1 hl hd hc45 ht hn hne
    · rw [if_neg hne] at h
      exact fin_cases 4 e (fun h2 h3 h4 => word_signm_ok k a0 a1 e w h0 h1 hl hd hc45 ht hn hne h2 h3 h4) (fun h2 h3 h4 => word_signm_big k a0 a1 e w h0 h1 hl hd hc45 ht hn hne h2 h3 h4) h
  · rw [if_neg hc45] at h
    by_cases hc34 : bt a0 a1 = 34
    · rw [if_pos hc34] at h
      unfold words_word.quote at h
      obtain ⟨⟨t, e, pa, pe⟩, hq, h⟩ := Option.bind_eq_some_iff.mp h
      simp only at h
      by_cases hpe : pe = 0
      · rw [if_pos hpe] at h
        split at h <;> rename_i h4
        · obtain ⟨rfl, rfl, rfl, rfl, rfl, rfl⟩ : 3 = r1 ∧ t = r2 ∧ a1 = r3 ∧ e = r4 ∧ pa = r5 ∧ pe = r6 := by simpa using h
          exact word_quote_ok k a0 a1 t e pa pe w h0 h1 hl hd hc34 hq hpe h4
        · obtain ⟨rfl, rfl, rfl, rfl, rfl, rfl⟩ : 3 = r1 ∧ t = r2 ∧ a1 = r3 ∧ e = r4 ∧ a1 = r5 ∧ 9 = r6 := by simpa using h
          exact word_quote_big k a0 a1 t e pa pe w h0 h1 hl hd hc34 hq hpe (by omega)
      · rw [if_neg hpe] at h
        obtain ⟨rfl, rfl, rfl, rfl, rfl, rfl⟩ : 3 = r1 ∧ t = r2 ∧ a1 = r3 ∧ e = r4 ∧ pa = r5 ∧ pe = r6 := by simpa using h
        exact word_quote_err k a0 a1 t e pa pe w h0 h1 hl hd hc34 hq hpe
    · rw [if_neg hc34] at h
      unfold words_word.sign at h
      obtain ⟨e, hn, h⟩ := Option.bind_eq_some_iff.mp h
      by_cases hne : e = a1
      · rw [if_pos hne] at h
        obtain ⟨rfl, rfl, rfl, rfl, rfl, rfl⟩ : 4 = r1 ∧ (⟨#[]⟩ : ByteArray) = r2 ∧ a1 = r3 ∧ e = r4 ∧ a1 = r5 ∧ 5 = r6 := by simpa using h
        exact word_signo_no k a0 a1 e w h0 h1 hl hd hc45 hc34 hn hne
      · rw [if_neg hne] at h
        exact fin_cases 4 e (fun h2 h3 h4 => word_signo_ok k a0 a1 e w h0 h1 hl hd hc45 hc34 hn hne h2 h3 h4) (fun h2 h3 h4 => word_signo_big k a0 a1 e w h0 h1 hl hd hc45 hc34 hn hne h2 h3 h4) h

end Go.Proofs.Ytlcjajcjoflpkaa.P
