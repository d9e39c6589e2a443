/-
  NARROWER THAN 'FOR EVERY INPUT', by the rows' own cells (each row's printed sentence says how): MatchRuns: laid · MatchMany: laid · MatchChecks: laid · MatchIsRight: laid · MatchLeaves: laid · MatchParts: laid · MatchMirror: laid · MatchNamed: laid.
  DERIVED. THE GIVEN ROWS OF THIS SEAT. 8 by the template 'for every input the law returns true; each argument reads behind the call as it read before'; 0 by the template 'total and deterministic' (their statements: YtinfcbfdeacllaaDoorTotals.lean).
  GIVEN WITH THE SEED: the statements are not yours to turn. If you find one false, say at which input.
  Laid BY PROGRAM, IN A SANDBOX (cutbox-rows.mjs): the forced cells as the released guide's own fill.sh prints them over the translation edd1c3c3814e843e… (all of the seat's roots in one cut). By AI agents, Wed Nov 11 2026. No macro, syntax, notation, axiom, sorry.
-/
import Derived.Test.YtinfcbfdeacllaaDoorChecked
import GoSem.Claim
import GoSem.ClaimJoined
import GoSem.ClaimMapViews
import Derived.JoinedTies
import Derived.KernelRfl
namespace Go.Proofs.YtinfcbfdeacllaaDoor
/- THE CELL 'sum', in the pinned program and in every row, IS THE sha256 OF THE DUMP (.gsa) THAT YtinfcbfdeacllaaDoorProg.lean LOADS. Nothing in Lean hashes anything: it is a label: what it is worth is what the hold of that sum in a sandbox is worth. -/
noncomputable def Tryd.pinned : Pinned := { name := "ytinfcbfdeacllaadoor", sum := "edd1c3c3814e843e23bc70aa94ab627d646ee1c44394711b4d5e88b498ea7e63", checked := Tryd.checked }
namespace Rows
def none {H : Type} : Left H := { results := [], args := [] }

/- WHAT THE LISTED PACKAGE-LEVEL VARIABLES READ AS WHEN THE CALL BEGINS. Each datum BY PROGRAM (the guide's laid-datum.mjs) off the statement by which the dump's own 'gosem.cut.vars' lays the variable. In a bare row this is a premise. The card (YtinfcbfdeacllaaDoorCards.lean) ties it to the program's text. -/
def laid_accounting_days_lengths {H : Type} : DataW H := .agg [.lit (.int .i64 31), .lit (.int .i64 28), .lit (.int .i64 31), .lit (.int .i64 30), .lit (.int .i64 31), .lit (.int .i64 30), .lit (.int .i64 31), .lit (.int .i64 31), .lit (.int .i64 30), .lit (.int .i64 31), .lit (.int .i64 30), .lit (.int .i64 31)]

/-- 'accountinglaw49.MatchRuns': WHATEVER THE INPUT: true; the input reads as it did. -/
def matchRunsSpec : ChangeSpec := { name := "matchRuns", fn := fun _ => fun
  | [d] => { results := [.lit (.bool true)], args := [d] }
  | _ => none }
def matchRunsRow : OpenClaim := { program := "ytinfcbfdeacllaadoor", sum := "edd1c3c3814e843e23bc70aa94ab627d646ee1c44394711b4d5e88b498ea7e63", func := "accounting/accountinglaw49.MatchRuns", spec := "matchRuns", inPlace := ["math/bits.Add64"], named := ["accounting/days.lengths"], apart := false, laid := [("accounting/days.lengths", laid_accounting_days_lengths)] }
def MatchRunsSaid : Prop := matchRunsRow.holds Tryd.pinned (OpenSpec.ofChange matchRunsSpec)

/-- ITS FALSE NEIGHBOUR: 'it returns false'. Refute it at one input. -/
def matchRunsWrong : ChangeSpec := { name := "matchRuns", fn := fun _ => fun
  | [d] => { results := [.lit (.bool false)], args := [d] }
  | _ => none }
def MatchRunsWrongFalsely : Prop := matchRunsRow.holds Tryd.pinned (OpenSpec.ofChange matchRunsWrong)

/-- 'accountinglaw49.MatchMany': WHATEVER THE INPUT: true; the input reads as it did. -/
def matchManySpec : ChangeSpec := { name := "matchMany", fn := fun _ => fun
  | [d] => { results := [.lit (.bool true)], args := [d] }
  | _ => none }
def matchManyRow : OpenClaim := { program := "ytinfcbfdeacllaadoor", sum := "edd1c3c3814e843e23bc70aa94ab627d646ee1c44394711b4d5e88b498ea7e63", func := "accounting/accountinglaw49.MatchMany", spec := "matchMany", inPlace := ["math/bits.Add64"], named := ["accounting/days.lengths"], apart := false, laid := [("accounting/days.lengths", laid_accounting_days_lengths)] }
def MatchManySaid : Prop := matchManyRow.holds Tryd.pinned (OpenSpec.ofChange matchManySpec)

/-- ITS FALSE NEIGHBOUR: 'it returns false'. Refute it at one input. -/
def matchManyWrong : ChangeSpec := { name := "matchMany", fn := fun _ => fun
  | [d] => { results := [.lit (.bool false)], args := [d] }
  | _ => none }
def MatchManyWrongFalsely : Prop := matchManyRow.holds Tryd.pinned (OpenSpec.ofChange matchManyWrong)

/-- 'accountinglaw49.MatchChecks': WHATEVER THE INPUT: true; the input reads as it did. -/
def matchChecksSpec : ChangeSpec := { name := "matchChecks", fn := fun _ => fun
  | [d] => { results := [.lit (.bool true)], args := [d] }
  | _ => none }
def matchChecksRow : OpenClaim := { program := "ytinfcbfdeacllaadoor", sum := "edd1c3c3814e843e23bc70aa94ab627d646ee1c44394711b4d5e88b498ea7e63", func := "accounting/accountinglaw49.MatchChecks", spec := "matchChecks", inPlace := ["math/bits.Add64"], named := ["accounting/days.lengths"], apart := false, laid := [("accounting/days.lengths", laid_accounting_days_lengths)] }
def MatchChecksSaid : Prop := matchChecksRow.holds Tryd.pinned (OpenSpec.ofChange matchChecksSpec)

/-- ITS FALSE NEIGHBOUR: 'it returns false'. Refute it at one input. -/
def matchChecksWrong : ChangeSpec := { name := "matchChecks", fn := fun _ => fun
  | [d] => { results := [.lit (.bool false)], args := [d] }
  | _ => none }
def MatchChecksWrongFalsely : Prop := matchChecksRow.holds Tryd.pinned (OpenSpec.ofChange matchChecksWrong)

/-- 'accountinglaw49.MatchIsRight': WHATEVER THE INPUT: true; the input reads as it did. -/
def matchIsRightSpec : ChangeSpec := { name := "matchIsRight", fn := fun _ => fun
  | [d] => { results := [.lit (.bool true)], args := [d] }
  | _ => none }
def matchIsRightRow : OpenClaim := { program := "ytinfcbfdeacllaadoor", sum := "edd1c3c3814e843e23bc70aa94ab627d646ee1c44394711b4d5e88b498ea7e63", func := "accounting/accountinglaw49.MatchIsRight", spec := "matchIsRight", inPlace := ["math/bits.Add64"], named := ["accounting/days.lengths"], apart := false, laid := [("accounting/days.lengths", laid_accounting_days_lengths)] }
def MatchIsRightSaid : Prop := matchIsRightRow.holds Tryd.pinned (OpenSpec.ofChange matchIsRightSpec)

/-- ITS FALSE NEIGHBOUR: 'it returns false'. Refute it at one input. -/
def matchIsRightWrong : ChangeSpec := { name := "matchIsRight", fn := fun _ => fun
  | [d] => { results := [.lit (.bool false)], args := [d] }
  | _ => none }
def MatchIsRightWrongFalsely : Prop := matchIsRightRow.holds Tryd.pinned (OpenSpec.ofChange matchIsRightWrong)

/-- 'accountinglaw49.MatchLeaves': WHATEVER THE INPUT: true; the input reads as it did. -/
def matchLeavesSpec : ChangeSpec := { name := "matchLeaves", fn := fun _ => fun
  | [d] => { results := [.lit (.bool true)], args := [d] }
  | _ => none }
def matchLeavesRow : OpenClaim := { program := "ytinfcbfdeacllaadoor", sum := "edd1c3c3814e843e23bc70aa94ab627d646ee1c44394711b4d5e88b498ea7e63", func := "accounting/accountinglaw49.MatchLeaves", spec := "matchLeaves", inPlace := ["math/bits.Add64"], named := ["accounting/days.lengths"], apart := false, laid := [("accounting/days.lengths", laid_accounting_days_lengths)] }
def MatchLeavesSaid : Prop := matchLeavesRow.holds Tryd.pinned (OpenSpec.ofChange matchLeavesSpec)

/-- ITS FALSE NEIGHBOUR: 'it returns false'. Refute it at one input. -/
def matchLeavesWrong : ChangeSpec := { name := "matchLeaves", fn := fun _ => fun
  | [d] => { results := [.lit (.bool false)], args := [d] }
  | _ => none }
def MatchLeavesWrongFalsely : Prop := matchLeavesRow.holds Tryd.pinned (OpenSpec.ofChange matchLeavesWrong)

/-- 'accountinglaw49.MatchParts': WHATEVER THE INPUT: true; the input reads as it did. -/
def matchPartsSpec : ChangeSpec := { name := "matchParts", fn := fun _ => fun
  | [d] => { results := [.lit (.bool true)], args := [d] }
  | _ => none }
def matchPartsRow : OpenClaim := { program := "ytinfcbfdeacllaadoor", sum := "edd1c3c3814e843e23bc70aa94ab627d646ee1c44394711b4d5e88b498ea7e63", func := "accounting/accountinglaw49.MatchParts", spec := "matchParts", inPlace := ["math/bits.Add64"], named := ["accounting/days.lengths"], apart := false, laid := [("accounting/days.lengths", laid_accounting_days_lengths)] }
def MatchPartsSaid : Prop := matchPartsRow.holds Tryd.pinned (OpenSpec.ofChange matchPartsSpec)

/-- ITS FALSE NEIGHBOUR: 'it returns false'. Refute it at one input. -/
def matchPartsWrong : ChangeSpec := { name := "matchParts", fn := fun _ => fun
  | [d] => { results := [.lit (.bool false)], args := [d] }
  | _ => none }
def MatchPartsWrongFalsely : Prop := matchPartsRow.holds Tryd.pinned (OpenSpec.ofChange matchPartsWrong)

/-- 'accountinglaw49.MatchMirror': WHATEVER THE INPUT: true; the input reads as it did. -/
def matchMirrorSpec : ChangeSpec := { name := "matchMirror", fn := fun _ => fun
  | [d1, d2] => { results := [.lit (.bool true)], args := [d1, d2] }
  | _ => none }
def matchMirrorRow : OpenClaim := { program := "ytinfcbfdeacllaadoor", sum := "edd1c3c3814e843e23bc70aa94ab627d646ee1c44394711b4d5e88b498ea7e63", func := "accounting/accountinglaw49.MatchMirror", spec := "matchMirror", inPlace := ["math/bits.Add64"], named := ["accounting/days.lengths"], apart := false, laid := [("accounting/days.lengths", laid_accounting_days_lengths)] }
def MatchMirrorSaid : Prop := matchMirrorRow.holds Tryd.pinned (OpenSpec.ofChange matchMirrorSpec)

/-- ITS FALSE NEIGHBOUR: 'it returns false'. Refute it at one input. -/
def matchMirrorWrong : ChangeSpec := { name := "matchMirror", fn := fun _ => fun
  | [d1, d2] => { results := [.lit (.bool false)], args := [d1, d2] }
  | _ => none }
def MatchMirrorWrongFalsely : Prop := matchMirrorRow.holds Tryd.pinned (OpenSpec.ofChange matchMirrorWrong)

/-- 'accountinglaw49.MatchNamed': WHATEVER THE INPUT: true; the input reads as it did. -/
def matchNamedSpec : ChangeSpec := { name := "matchNamed", fn := fun _ => fun
  | [d1, d2, d3] => { results := [.lit (.bool true)], args := [d1, d2, d3] }
  | _ => none }
def matchNamedRow : OpenClaim := { program := "ytinfcbfdeacllaadoor", sum := "edd1c3c3814e843e23bc70aa94ab627d646ee1c44394711b4d5e88b498ea7e63", func := "accounting/accountinglaw49.MatchNamed", spec := "matchNamed", inPlace := ["math/bits.Add64"], named := ["accounting/days.lengths"], apart := false, laid := [("accounting/days.lengths", laid_accounting_days_lengths)] }
def MatchNamedSaid : Prop := matchNamedRow.holds Tryd.pinned (OpenSpec.ofChange matchNamedSpec)

/-- ITS FALSE NEIGHBOUR: 'it returns false'. Refute it at one input. -/
def matchNamedWrong : ChangeSpec := { name := "matchNamed", fn := fun _ => fun
  | [d1, d2, d3] => { results := [.lit (.bool false)], args := [d1, d2, d3] }
  | _ => none }
def MatchNamedWrongFalsely : Prop := matchNamedRow.holds Tryd.pinned (OpenSpec.ofChange matchNamedWrong)

/- THE SECOND FORM. 'bulk': how many values and letters a reading holds, each counted each time it is reached (what is shared counts as often as it is met; a slice's spare places count too). A statement '..UptoSaid' is the law's where the arguments, and the package variables that the reading takes, are together of bulk at most 1048576: NARROWER than '..Said'. Prove '..Said' where nothing that the law and all that it calls make is longer than what came in: it says more and counts as full. Else prove '..UptoSaid'. A law counts once. -/
mutual
def uptoBulk {H : Type} : DataW H → Nat
  | .lit (.string bytes) => bytes.length + 1
  | .lit _ => 1
  | .nil => 1
  | .ptr d => uptoBulk d + 1
  | .slice elems spare => uptoBulkAll elems + uptoBulkAll spare + 1
  | .agg parts => uptoBulkAll parts + 1
  | .iface _ d => uptoBulk d + 1
  | .map entries => uptoBulkEntries entries + 1
  | .held _ => 1
def uptoBulkAll {H : Type} : List (DataW H) → Nat
  | [] => 0
  | d :: r => uptoBulk d + uptoBulkAll r
def uptoBulkEntries {H : Type} : List (Lit × DataW H) → Nat
  | [] => 0
  | x :: r => uptoBulkEntry x + uptoBulkEntries r
def uptoBulkEntry {H : Type} : Lit × DataW H → Nat
  | (.string bytes, d) => bytes.length + uptoBulk d + 1
  | (_, d) => uptoBulk d + 1
 end
def uptoSmall : (H : Type) → List (DataW H) → Bool := fun _ ds => decide (uptoBulkAll ds ≤ 1048576)
def OpenSpec.upto (s : _root_.Go.ChangeSpec) : _root_.Go.OpenSpec := { _root_.Go.OpenSpec.ofChange s with cond := some uptoSmall }

/-- 'accountinglaw49.MatchRuns', WHERE WHAT IT READS IS OF BULK AT MOST 1048576: true; the input reads as it did. -/
def matchRunsUptoRow : OpenClaim := { program := "ytinfcbfdeacllaadoor", sum := "edd1c3c3814e843e23bc70aa94ab627d646ee1c44394711b4d5e88b498ea7e63", func := "accounting/accountinglaw49.MatchRuns", spec := "matchRuns", inPlace := ["math/bits.Add64"], named := ["accounting/days.lengths"], apart := false, laid := [("accounting/days.lengths", laid_accounting_days_lengths)], narrowed := true }
def MatchRunsUptoSaid : Prop := matchRunsUptoRow.holds Tryd.pinned (OpenSpec.upto matchRunsSpec)

/-- 'accountinglaw49.MatchMany', WHERE WHAT IT READS IS OF BULK AT MOST 1048576: true; the input reads as it did. -/
def matchManyUptoRow : OpenClaim := { program := "ytinfcbfdeacllaadoor", sum := "edd1c3c3814e843e23bc70aa94ab627d646ee1c44394711b4d5e88b498ea7e63", func := "accounting/accountinglaw49.MatchMany", spec := "matchMany", inPlace := ["math/bits.Add64"], named := ["accounting/days.lengths"], apart := false, laid := [("accounting/days.lengths", laid_accounting_days_lengths)], narrowed := true }
def MatchManyUptoSaid : Prop := matchManyUptoRow.holds Tryd.pinned (OpenSpec.upto matchManySpec)

/-- 'accountinglaw49.MatchChecks', WHERE WHAT IT READS IS OF BULK AT MOST 1048576: true; the input reads as it did. -/
def matchChecksUptoRow : OpenClaim := { program := "ytinfcbfdeacllaadoor", sum := "edd1c3c3814e843e23bc70aa94ab627d646ee1c44394711b4d5e88b498ea7e63", func := "accounting/accountinglaw49.MatchChecks", spec := "matchChecks", inPlace := ["math/bits.Add64"], named := ["accounting/days.lengths"], apart := false, laid := [("accounting/days.lengths", laid_accounting_days_lengths)], narrowed := true }
def MatchChecksUptoSaid : Prop := matchChecksUptoRow.holds Tryd.pinned (OpenSpec.upto matchChecksSpec)

/-- 'accountinglaw49.MatchIsRight', WHERE WHAT IT READS IS OF BULK AT MOST 1048576: true; the input reads as it did. -/
def matchIsRightUptoRow : OpenClaim := { program := "ytinfcbfdeacllaadoor", sum := "edd1c3c3814e843e23bc70aa94ab627d646ee1c44394711b4d5e88b498ea7e63", func := "accounting/accountinglaw49.MatchIsRight", spec := "matchIsRight", inPlace := ["math/bits.Add64"], named := ["accounting/days.lengths"], apart := false, laid := [("accounting/days.lengths", laid_accounting_days_lengths)], narrowed := true }
def MatchIsRightUptoSaid : Prop := matchIsRightUptoRow.holds Tryd.pinned (OpenSpec.upto matchIsRightSpec)

/-- 'accountinglaw49.MatchLeaves', WHERE WHAT IT READS IS OF BULK AT MOST 1048576: true; the input reads as it did. -/
def matchLeavesUptoRow : OpenClaim := { program := "ytinfcbfdeacllaadoor", sum := "edd1c3c3814e843e23bc70aa94ab627d646ee1c44394711b4d5e88b498ea7e63", func := "accounting/accountinglaw49.MatchLeaves", spec := "matchLeaves", inPlace := ["math/bits.Add64"], named := ["accounting/days.lengths"], apart := false, laid := [("accounting/days.lengths", laid_accounting_days_lengths)], narrowed := true }
def MatchLeavesUptoSaid : Prop := matchLeavesUptoRow.holds Tryd.pinned (OpenSpec.upto matchLeavesSpec)

/-- 'accountinglaw49.MatchParts', WHERE WHAT IT READS IS OF BULK AT MOST 1048576: true; the input reads as it did. -/
def matchPartsUptoRow : OpenClaim := { program := "ytinfcbfdeacllaadoor", sum := "edd1c3c3814e843e23bc70aa94ab627d646ee1c44394711b4d5e88b498ea7e63", func := "accounting/accountinglaw49.MatchParts", spec := "matchParts", inPlace := ["math/bits.Add64"], named := ["accounting/days.lengths"], apart := false, laid := [("accounting/days.lengths", laid_accounting_days_lengths)], narrowed := true }
def MatchPartsUptoSaid : Prop := matchPartsUptoRow.holds Tryd.pinned (OpenSpec.upto matchPartsSpec)

/-- 'accountinglaw49.MatchMirror', WHERE WHAT IT READS IS OF BULK AT MOST 1048576: true; the input reads as it did. -/
def matchMirrorUptoRow : OpenClaim := { program := "ytinfcbfdeacllaadoor", sum := "edd1c3c3814e843e23bc70aa94ab627d646ee1c44394711b4d5e88b498ea7e63", func := "accounting/accountinglaw49.MatchMirror", spec := "matchMirror", inPlace := ["math/bits.Add64"], named := ["accounting/days.lengths"], apart := false, laid := [("accounting/days.lengths", laid_accounting_days_lengths)], narrowed := true }
def MatchMirrorUptoSaid : Prop := matchMirrorUptoRow.holds Tryd.pinned (OpenSpec.upto matchMirrorSpec)

/-- 'accountinglaw49.MatchNamed', WHERE WHAT IT READS IS OF BULK AT MOST 1048576: true; the input reads as it did. -/
def matchNamedUptoRow : OpenClaim := { program := "ytinfcbfdeacllaadoor", sum := "edd1c3c3814e843e23bc70aa94ab627d646ee1c44394711b4d5e88b498ea7e63", func := "accounting/accountinglaw49.MatchNamed", spec := "matchNamed", inPlace := ["math/bits.Add64"], named := ["accounting/days.lengths"], apart := false, laid := [("accounting/days.lengths", laid_accounting_days_lengths)], narrowed := true }
def MatchNamedUptoSaid : Prop := matchNamedUptoRow.holds Tryd.pinned (OpenSpec.upto matchNamedSpec)

end Rows
end Go.Proofs.YtinfcbfdeacllaaDoor
