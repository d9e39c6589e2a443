/- The methods of a nil workflow. -/
import Derived.Test.YtbbhichndfbooaaHandJ
namespace Go.Proofs.Ytbbhichndfbooaa.P
open Go.RowKit Go.Proofs.YtbbhichndfbooaaW.PrintWords Go.Proofs.YtbbhichndfbooaaW.PrintLast Go.Proofs.YtbbhichndfbooaaW.PrintMore Go.Maps Go.ChangeShapes Go.WideShapes Go.WideMaps
set_option linter.unusedVariables false
set_option linter.unusedSimpArgs false
theorem find_nil (id : Int) (user : ByteArray) (who : Int) (v : Value) (w : World) : Calls Try.prog 48 #[.pointer none, .int .i64 id, .string user, .int .i64 who, v] w fun e w' => e = .returned (.tuple #[.pointer none, .int .i64 1]) ∧ w' = w := by
  go_enter Try.func48, Try.ntmps48
  go_wp2_with (first | (go_at_call 36; refine (doc_nil id _).mono ?_; rintro e w' ⟨rfl, he_⟩; obtain rfl := he_.symm))
  go_ret2
  exact ⟨rfl, rfl⟩
theorem move_nil (kind id : Int) (user : ByteArray) (who st : Int) (v : Value) (w : World) : Calls Try.prog 50 #[.pointer none, .int .i64 kind, .int .i64 id, .string user, .int .i64 who, .int .i64 st, v] w fun e w' => e = .returned (.int .i64 1) ∧ w' = w := by
  go_enter Try.func50, Try.ntmps50
  go_wp2_with (first | (go_at_call 48; refine (find_nil id user who v _).mono ?_; rintro e w' ⟨rfl, he_⟩; obtain rfl := he_.symm))
  go_ret
  exact ⟨rfl, rfl⟩
def NilPost (w w' : World) (x : Ending) : Prop := x = .returned (.int .i64 1) ∧ Below w.heap.size w w'
theorem submit_nil (id : Int) (user : ByteArray) (w : World) : Calls Try.prog 29 #[.pointer none, .int .i64 id, .string user] w fun e w' => NilPost w w' e := by
  go_enter Try.func29, Try.ntmps29
  go_wp2_with (first | (go_at_call 48; refine (find_nil id user 0 _ _).mono ?_; rintro e w' ⟨rfl, he_⟩; obtain rfl := he_.symm))
  go_ret
  exact ⟨rfl, below_alloc (Below.refl _ _) _⟩
theorem approve_nil (id : Int) (user : ByteArray) (w : World) : Calls Try.prog 30 #[.pointer none, .int .i64 id, .string user] w fun e w' => NilPost w w' e := by
  go_enter Try.func30, Try.ntmps30
  go_wp2_with (first | (go_at_call 48; refine (find_nil id user 1 _ _).mono ?_; rintro e w' ⟨rfl, he_⟩; obtain rfl := he_.symm))
  go_ret
  exact ⟨rfl, below_alloc (Below.refl _ _) _⟩
theorem reject_nil (id : Int) (user : ByteArray) (w : World) : Calls Try.prog 57 #[.pointer none, .int .i64 id, .string user] w fun e w' => NilPost w w' e := by
  go_enter Try.func57, Try.ntmps57
  go_wp2_with (first | (go_at_call 50; refine (move_nil 4 id user 1 4 _ _).mono ?_; rintro e w' ⟨rfl, he_⟩; obtain rfl := he_.symm))
  go_ret
  exact ⟨rfl, below_alloc (Below.refl _ _) _⟩
theorem redraft_nil (id : Int) (user : ByteArray) (w : World) : Calls Try.prog 58 #[.pointer none, .int .i64 id, .string user] w fun e w' => NilPost w w' e := by
  go_enter Try.func58, Try.ntmps58
  go_wp2_with (first | (go_at_call 50; refine (move_nil 5 id user 0 1 _ _).mono ?_; rintro e w' ⟨rfl, he_⟩; obtain rfl := he_.symm))
  go_ret
  exact ⟨rfl, below_alloc (Below.refl _ _) _⟩
theorem cancel_nil (id : Int) (user : ByteArray) (w : World) : Calls Try.prog 59 #[.pointer none, .int .i64 id, .string user] w fun e w' => NilPost w w' e := by
  go_enter Try.func59, Try.ntmps59
  go_wp2_with (first | (go_at_call 50; refine (move_nil 6 id user 0 6 _ _).mono ?_; rintro e w' ⟨rfl, he_⟩; obtain rfl := he_.symm))
  go_ret
  exact ⟨rfl, below_alloc (Below.refl _ _) _⟩
theorem post_nil (id : Int) (user : ByteArray) (w : World) : Calls Try.prog 31 #[.pointer none, .int .i64 id, .string user] w fun e w' => NilPost w w' e := by
  go_enter Try.func31, Try.ntmps31
  go_wp2_with (first | (go_at_call 50; refine (move_nil 7 id user 2 5 _ _).mono ?_; rintro e w' ⟨rfl, he_⟩; obtain rfl := he_.symm))
  go_ret
  exact ⟨rfl, below_alloc (Below.refl _ _) _⟩
end Go.Proofs.Ytbbhichndfbooaa.P
