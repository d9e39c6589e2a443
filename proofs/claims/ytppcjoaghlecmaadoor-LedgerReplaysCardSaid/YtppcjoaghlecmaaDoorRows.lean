/-
  NARROWER THAN 'FOR EVERY INPUT', by the rows' own cells (each row's printed sentence says how): LedgerKnown: laid · LedgerNil: laid · LedgerCells: laid · LedgerReplays: laid · LedgerFinds: laid · LedgerBalances: laid · LedgerDivides: laid · LedgerEntities: laid · ReconOf: laid · ReconDiff: laid · ReconLines: laid · ReconRun: laid · ReconPosted: laid.
  DERIVED. THE GIVEN ROWS OF THIS SEAT. 13 by the template 'for every input the law returns true; each argument reads behind the call as it read before'; 0 by the template 'total and deterministic' (their statements: YtppcjoaghlecmaaDoorTotals.lean).
  GIVEN WITH THE SEED: the statements are not yours to turn. If you find one false, say at which input.
  Laid BY PROGRAM, IN A SANDBOX (cutbox-rows.mjs): the forced cells as the released guide's own fill.sh prints them over the translation 950f9dae109c2bac… (all of the seat's roots in one cut). By AI agents, Wed Nov 11 2026. No macro, syntax, notation, axiom, sorry.
-/
import Derived.Test.YtppcjoaghlecmaaDoorChecked
import GoSem.Claim
import GoSem.ClaimJoined
import GoSem.ClaimMapViews
import Derived.JoinedTies
import Derived.KernelRfl
namespace Go.Proofs.YtppcjoaghlecmaaDoor
/- THE CELL 'sum', in the pinned program and in every row, IS THE sha256 OF THE DUMP (.gsa) THAT YtppcjoaghlecmaaDoorProg.lean LOADS. Nothing in Lean hashes anything: it is a label: what it is worth is what the hold of that sum in a sandbox is worth. -/
noncomputable def Tryd.pinned : Pinned := { name := "ytppcjoaghlecmaadoor", sum := "950f9dae109c2bac2d61da4005fab61ad799b1dfa121a2d43a969d32b00b2a7a", checked := Tryd.checked }
namespace Rows
def none {H : Type} : Left H := { results := [], args := [] }

/- WHAT THE LISTED PACKAGE-LEVEL VARIABLES READ AS WHEN THE CALL BEGINS. Each datum BY PROGRAM (the guide's laid-datum.mjs) off the statement by which the dump's own 'gosem.cut.vars' lays the variable. In a bare row this is a premise. The card (YtppcjoaghlecmaaDoorCards.lean) ties it to the program's text. -/
def laid_accounting_days_lengths {H : Type} : DataW H := .agg [.lit (.int .i64 31), .lit (.int .i64 28), .lit (.int .i64 31), .lit (.int .i64 30), .lit (.int .i64 31), .lit (.int .i64 30), .lit (.int .i64 31), .lit (.int .i64 31), .lit (.int .i64 30), .lit (.int .i64 31), .lit (.int .i64 30), .lit (.int .i64 31)]

/-- 'accountinglaw20.LedgerKnown': WHATEVER THE INPUT: true; the input reads as it did. -/
def ledgerKnownSpec : ChangeSpec := { name := "ledgerKnown", fn := fun _ => fun
  | [d1, d2] => { results := [.lit (.bool true)], args := [d1, d2] }
  | _ => none }
def ledgerKnownRow : OpenClaim := { program := "ytppcjoaghlecmaadoor", sum := "950f9dae109c2bac2d61da4005fab61ad799b1dfa121a2d43a969d32b00b2a7a", func := "accounting/accountinglaw20.LedgerKnown", spec := "ledgerKnown", inPlace := ["math/bits.Add64", "internal/bytealg.abigen_runtime_cmpstring"], unfollowed := true, recurses := true, named := ["accounting/days.lengths"], apart := false, laid := [("accounting/days.lengths", laid_accounting_days_lengths)] }
def LedgerKnownSaid : Prop := ledgerKnownRow.holds Tryd.pinned (OpenSpec.ofChange ledgerKnownSpec)

/-- ITS FALSE NEIGHBOUR: 'it returns false'. Refute it at one input. -/
def ledgerKnownWrong : ChangeSpec := { name := "ledgerKnown", fn := fun _ => fun
  | [d1, d2] => { results := [.lit (.bool false)], args := [d1, d2] }
  | _ => none }
def LedgerKnownWrongFalsely : Prop := ledgerKnownRow.holds Tryd.pinned (OpenSpec.ofChange ledgerKnownWrong)

/-- 'accountinglaw20.LedgerNil': WHATEVER THE INPUT: true; the input reads as it did. -/
def ledgerNilSpec : ChangeSpec := { name := "ledgerNil", fn := fun _ => fun
  | [d1, d2, d3] => { results := [.lit (.bool true)], args := [d1, d2, d3] }
  | _ => none }
def ledgerNilRow : OpenClaim := { program := "ytppcjoaghlecmaadoor", sum := "950f9dae109c2bac2d61da4005fab61ad799b1dfa121a2d43a969d32b00b2a7a", func := "accounting/accountinglaw20.LedgerNil", spec := "ledgerNil", inPlace := ["math/bits.Add64", "internal/bytealg.abigen_runtime_cmpstring"], unfollowed := true, recurses := true, named := ["accounting/days.lengths"], apart := false, laid := [("accounting/days.lengths", laid_accounting_days_lengths)] }
def LedgerNilSaid : Prop := ledgerNilRow.holds Tryd.pinned (OpenSpec.ofChange ledgerNilSpec)

/-- ITS FALSE NEIGHBOUR: 'it returns false'. Refute it at one input. -/
def ledgerNilWrong : ChangeSpec := { name := "ledgerNil", fn := fun _ => fun
  | [d1, d2, d3] => { results := [.lit (.bool false)], args := [d1, d2, d3] }
  | _ => none }
def LedgerNilWrongFalsely : Prop := ledgerNilRow.holds Tryd.pinned (OpenSpec.ofChange ledgerNilWrong)

/-- 'accountinglaw20.LedgerCells': WHATEVER THE INPUT: true; the input reads as it did. -/
def ledgerCellsSpec : ChangeSpec := { name := "ledgerCells", fn := fun _ => fun
  | [d] => { results := [.lit (.bool true)], args := [d] }
  | _ => none }
def ledgerCellsRow : OpenClaim := { program := "ytppcjoaghlecmaadoor", sum := "950f9dae109c2bac2d61da4005fab61ad799b1dfa121a2d43a969d32b00b2a7a", func := "accounting/accountinglaw20.LedgerCells", spec := "ledgerCells", inPlace := ["math/bits.Add64", "internal/bytealg.abigen_runtime_cmpstring"], unfollowed := true, recurses := true, named := ["accounting/days.lengths"], apart := false, laid := [("accounting/days.lengths", laid_accounting_days_lengths)] }
def LedgerCellsSaid : Prop := ledgerCellsRow.holds Tryd.pinned (OpenSpec.ofChange ledgerCellsSpec)

/-- ITS FALSE NEIGHBOUR: 'it returns false'. Refute it at one input. -/
def ledgerCellsWrong : ChangeSpec := { name := "ledgerCells", fn := fun _ => fun
  | [d] => { results := [.lit (.bool false)], args := [d] }
  | _ => none }
def LedgerCellsWrongFalsely : Prop := ledgerCellsRow.holds Tryd.pinned (OpenSpec.ofChange ledgerCellsWrong)

/-- 'accountinglaw20.LedgerReplays': WHATEVER THE INPUT: true; the input reads as it did. -/
def ledgerReplaysSpec : ChangeSpec := { name := "ledgerReplays", fn := fun _ => fun
  | [d1, d2] => { results := [.lit (.bool true)], args := [d1, d2] }
  | _ => none }
def ledgerReplaysRow : OpenClaim := { program := "ytppcjoaghlecmaadoor", sum := "950f9dae109c2bac2d61da4005fab61ad799b1dfa121a2d43a969d32b00b2a7a", func := "accounting/accountinglaw20.LedgerReplays", spec := "ledgerReplays", inPlace := ["math/bits.Add64", "internal/bytealg.abigen_runtime_cmpstring"], unfollowed := true, recurses := true, named := ["accounting/days.lengths"], apart := false, laid := [("accounting/days.lengths", laid_accounting_days_lengths)] }
def LedgerReplaysSaid : Prop := ledgerReplaysRow.holds Tryd.pinned (OpenSpec.ofChange ledgerReplaysSpec)

/-- ITS FALSE NEIGHBOUR: 'it returns false'. Refute it at one input. -/
def ledgerReplaysWrong : ChangeSpec := { name := "ledgerReplays", fn := fun _ => fun
  | [d1, d2] => { results := [.lit (.bool false)], args := [d1, d2] }
  | _ => none }
def LedgerReplaysWrongFalsely : Prop := ledgerReplaysRow.holds Tryd.pinned (OpenSpec.ofChange ledgerReplaysWrong)

/-- 'accountinglaw20.LedgerFinds': WHATEVER THE INPUT: true; the input reads as it did. -/
def ledgerFindsSpec : ChangeSpec := { name := "ledgerFinds", fn := fun _ => fun
  | [d1, d2, d3] => { results := [.lit (.bool true)], args := [d1, d2, d3] }
  | _ => none }
def ledgerFindsRow : OpenClaim := { program := "ytppcjoaghlecmaadoor", sum := "950f9dae109c2bac2d61da4005fab61ad799b1dfa121a2d43a969d32b00b2a7a", func := "accounting/accountinglaw20.LedgerFinds", spec := "ledgerFinds", inPlace := ["math/bits.Add64", "internal/bytealg.abigen_runtime_cmpstring"], unfollowed := true, recurses := true, named := ["accounting/days.lengths"], apart := false, laid := [("accounting/days.lengths", laid_accounting_days_lengths)] }
def LedgerFindsSaid : Prop := ledgerFindsRow.holds Tryd.pinned (OpenSpec.ofChange ledgerFindsSpec)

/-- ITS FALSE NEIGHBOUR: 'it returns false'. Refute it at one input. -/
def ledgerFindsWrong : ChangeSpec := { name := "ledgerFinds", fn := fun _ => fun
  | [d1, d2, d3] => { results := [.lit (.bool false)], args := [d1, d2, d3] }
  | _ => none }
def LedgerFindsWrongFalsely : Prop := ledgerFindsRow.holds Tryd.pinned (OpenSpec.ofChange ledgerFindsWrong)

/-- 'accountinglaw20.LedgerBalances': WHATEVER THE INPUT: true; the input reads as it did. -/
def ledgerBalancesSpec : ChangeSpec := { name := "ledgerBalances", fn := fun _ => fun
  | [d1, d2] => { results := [.lit (.bool true)], args := [d1, d2] }
  | _ => none }
def ledgerBalancesRow : OpenClaim := { program := "ytppcjoaghlecmaadoor", sum := "950f9dae109c2bac2d61da4005fab61ad799b1dfa121a2d43a969d32b00b2a7a", func := "accounting/accountinglaw20.LedgerBalances", spec := "ledgerBalances", inPlace := ["math/bits.Add64", "internal/bytealg.abigen_runtime_cmpstring"], unfollowed := true, recurses := true, named := ["accounting/days.lengths"], apart := false, laid := [("accounting/days.lengths", laid_accounting_days_lengths)] }
def LedgerBalancesSaid : Prop := ledgerBalancesRow.holds Tryd.pinned (OpenSpec.ofChange ledgerBalancesSpec)

/-- ITS FALSE NEIGHBOUR: 'it returns false'. Refute it at one input. -/
def ledgerBalancesWrong : ChangeSpec := { name := "ledgerBalances", fn := fun _ => fun
  | [d1, d2] => { results := [.lit (.bool false)], args := [d1, d2] }
  | _ => none }
def LedgerBalancesWrongFalsely : Prop := ledgerBalancesRow.holds Tryd.pinned (OpenSpec.ofChange ledgerBalancesWrong)

/-- 'accountinglaw20.LedgerDivides': WHATEVER THE INPUT: true; the input reads as it did. -/
def ledgerDividesSpec : ChangeSpec := { name := "ledgerDivides", fn := fun _ => fun
  | [d1, d2, d3] => { results := [.lit (.bool true)], args := [d1, d2, d3] }
  | _ => none }
def ledgerDividesRow : OpenClaim := { program := "ytppcjoaghlecmaadoor", sum := "950f9dae109c2bac2d61da4005fab61ad799b1dfa121a2d43a969d32b00b2a7a", func := "accounting/accountinglaw20.LedgerDivides", spec := "ledgerDivides", inPlace := ["math/bits.Add64", "internal/bytealg.abigen_runtime_cmpstring"], unfollowed := true, recurses := true, named := ["accounting/days.lengths"], apart := false, laid := [("accounting/days.lengths", laid_accounting_days_lengths)] }
def LedgerDividesSaid : Prop := ledgerDividesRow.holds Tryd.pinned (OpenSpec.ofChange ledgerDividesSpec)

/-- ITS FALSE NEIGHBOUR: 'it returns false'. Refute it at one input. -/
def ledgerDividesWrong : ChangeSpec := { name := "ledgerDivides", fn := fun _ => fun
  | [d1, d2, d3] => { results := [.lit (.bool false)], args := [d1, d2, d3] }
  | _ => none }
def LedgerDividesWrongFalsely : Prop := ledgerDividesRow.holds Tryd.pinned (OpenSpec.ofChange ledgerDividesWrong)

/-- 'accountinglaw20.LedgerEntities': WHATEVER THE INPUT: true; the input reads as it did. -/
def ledgerEntitiesSpec : ChangeSpec := { name := "ledgerEntities", fn := fun _ => fun
  | [d1, d2] => { results := [.lit (.bool true)], args := [d1, d2] }
  | _ => none }
def ledgerEntitiesRow : OpenClaim := { program := "ytppcjoaghlecmaadoor", sum := "950f9dae109c2bac2d61da4005fab61ad799b1dfa121a2d43a969d32b00b2a7a", func := "accounting/accountinglaw20.LedgerEntities", spec := "ledgerEntities", inPlace := ["math/bits.Add64", "internal/bytealg.abigen_runtime_cmpstring"], unfollowed := true, recurses := true, named := ["accounting/days.lengths"], apart := false, laid := [("accounting/days.lengths", laid_accounting_days_lengths)] }
def LedgerEntitiesSaid : Prop := ledgerEntitiesRow.holds Tryd.pinned (OpenSpec.ofChange ledgerEntitiesSpec)

/-- ITS FALSE NEIGHBOUR: 'it returns false'. Refute it at one input. -/
def ledgerEntitiesWrong : ChangeSpec := { name := "ledgerEntities", fn := fun _ => fun
  | [d1, d2] => { results := [.lit (.bool false)], args := [d1, d2] }
  | _ => none }
def LedgerEntitiesWrongFalsely : Prop := ledgerEntitiesRow.holds Tryd.pinned (OpenSpec.ofChange ledgerEntitiesWrong)

/-- 'accountinglaw50.ReconOf': WHATEVER THE INPUT: true; the input reads as it did. -/
def reconOfSpec : ChangeSpec := { name := "reconOf", fn := fun _ => fun
  | [d1, d2] => { results := [.lit (.bool true)], args := [d1, d2] }
  | _ => none }
def reconOfRow : OpenClaim := { program := "ytppcjoaghlecmaadoor", sum := "950f9dae109c2bac2d61da4005fab61ad799b1dfa121a2d43a969d32b00b2a7a", func := "accounting/accountinglaw50.ReconOf", spec := "reconOf", inPlace := ["math/bits.Add64", "internal/bytealg.IndexByteString", "internal/bytealg.IndexString"], unfollowed := true, recurses := true, named := ["accounting/days.lengths", "internal/bytealg.MaxLen"], apart := false, laid := [("accounting/days.lengths", laid_accounting_days_lengths)] }
def ReconOfSaid : Prop := reconOfRow.holds Tryd.pinned (OpenSpec.ofChange reconOfSpec)

/-- ITS FALSE NEIGHBOUR: 'it returns false'. Refute it at one input. -/
def reconOfWrong : ChangeSpec := { name := "reconOf", fn := fun _ => fun
  | [d1, d2] => { results := [.lit (.bool false)], args := [d1, d2] }
  | _ => none }
def ReconOfWrongFalsely : Prop := reconOfRow.holds Tryd.pinned (OpenSpec.ofChange reconOfWrong)

/-- 'accountinglaw50.ReconDiff': WHATEVER THE INPUT: true; the input reads as it did. -/
def reconDiffSpec : ChangeSpec := { name := "reconDiff", fn := fun _ => fun
  | [d1, d2] => { results := [.lit (.bool true)], args := [d1, d2] }
  | _ => none }
def reconDiffRow : OpenClaim := { program := "ytppcjoaghlecmaadoor", sum := "950f9dae109c2bac2d61da4005fab61ad799b1dfa121a2d43a969d32b00b2a7a", func := "accounting/accountinglaw50.ReconDiff", spec := "reconDiff", inPlace := ["math/bits.Add64", "internal/bytealg.IndexByteString", "internal/bytealg.IndexString"], unfollowed := true, recurses := true, named := ["accounting/days.lengths", "internal/bytealg.MaxLen"], apart := false, laid := [("accounting/days.lengths", laid_accounting_days_lengths)] }
def ReconDiffSaid : Prop := reconDiffRow.holds Tryd.pinned (OpenSpec.ofChange reconDiffSpec)

/-- ITS FALSE NEIGHBOUR: 'it returns false'. Refute it at one input. -/
def reconDiffWrong : ChangeSpec := { name := "reconDiff", fn := fun _ => fun
  | [d1, d2] => { results := [.lit (.bool false)], args := [d1, d2] }
  | _ => none }
def ReconDiffWrongFalsely : Prop := reconDiffRow.holds Tryd.pinned (OpenSpec.ofChange reconDiffWrong)

/-- 'accountinglaw50.ReconLines': WHATEVER THE INPUT: true; the input reads as it did. -/
def reconLinesSpec : ChangeSpec := { name := "reconLines", fn := fun _ => fun
  | [d1, d2] => { results := [.lit (.bool true)], args := [d1, d2] }
  | _ => none }
def reconLinesRow : OpenClaim := { program := "ytppcjoaghlecmaadoor", sum := "950f9dae109c2bac2d61da4005fab61ad799b1dfa121a2d43a969d32b00b2a7a", func := "accounting/accountinglaw50.ReconLines", spec := "reconLines", inPlace := ["math/bits.Add64", "internal/bytealg.IndexByteString", "internal/bytealg.IndexString"], unfollowed := true, recurses := true, named := ["accounting/days.lengths", "internal/bytealg.MaxLen"], apart := false, laid := [("accounting/days.lengths", laid_accounting_days_lengths)] }
def ReconLinesSaid : Prop := reconLinesRow.holds Tryd.pinned (OpenSpec.ofChange reconLinesSpec)

/-- ITS FALSE NEIGHBOUR: 'it returns false'. Refute it at one input. -/
def reconLinesWrong : ChangeSpec := { name := "reconLines", fn := fun _ => fun
  | [d1, d2] => { results := [.lit (.bool false)], args := [d1, d2] }
  | _ => none }
def ReconLinesWrongFalsely : Prop := reconLinesRow.holds Tryd.pinned (OpenSpec.ofChange reconLinesWrong)

/-- 'accountinglaw50.ReconRun': WHATEVER THE INPUT: true; the input reads as it did. -/
def reconRunSpec : ChangeSpec := { name := "reconRun", fn := fun _ => fun
  | [d1, d2, d3] => { results := [.lit (.bool true)], args := [d1, d2, d3] }
  | _ => none }
def reconRunRow : OpenClaim := { program := "ytppcjoaghlecmaadoor", sum := "950f9dae109c2bac2d61da4005fab61ad799b1dfa121a2d43a969d32b00b2a7a", func := "accounting/accountinglaw50.ReconRun", spec := "reconRun", inPlace := ["math/bits.Add64", "internal/bytealg.IndexByteString", "internal/bytealg.IndexString"], unfollowed := true, recurses := true, named := ["accounting/days.lengths", "internal/bytealg.MaxLen"], apart := false, laid := [("accounting/days.lengths", laid_accounting_days_lengths)] }
def ReconRunSaid : Prop := reconRunRow.holds Tryd.pinned (OpenSpec.ofChange reconRunSpec)

/-- ITS FALSE NEIGHBOUR: 'it returns false'. Refute it at one input. -/
def reconRunWrong : ChangeSpec := { name := "reconRun", fn := fun _ => fun
  | [d1, d2, d3] => { results := [.lit (.bool false)], args := [d1, d2, d3] }
  | _ => none }
def ReconRunWrongFalsely : Prop := reconRunRow.holds Tryd.pinned (OpenSpec.ofChange reconRunWrong)

/-- 'accountinglaw50.ReconPosted': WHATEVER THE INPUT: true; the input reads as it did. -/
def reconPostedSpec : ChangeSpec := { name := "reconPosted", fn := fun _ => fun
  | [d1, d2, d3] => { results := [.lit (.bool true)], args := [d1, d2, d3] }
  | _ => none }
def reconPostedRow : OpenClaim := { program := "ytppcjoaghlecmaadoor", sum := "950f9dae109c2bac2d61da4005fab61ad799b1dfa121a2d43a969d32b00b2a7a", func := "accounting/accountinglaw50.ReconPosted", spec := "reconPosted", inPlace := ["math/bits.Add64", "internal/bytealg.IndexByteString", "internal/bytealg.IndexString"], unfollowed := true, recurses := true, named := ["accounting/days.lengths", "internal/bytealg.MaxLen"], apart := false, laid := [("accounting/days.lengths", laid_accounting_days_lengths)] }
def ReconPostedSaid : Prop := reconPostedRow.holds Tryd.pinned (OpenSpec.ofChange reconPostedSpec)

/-- ITS FALSE NEIGHBOUR: 'it returns false'. Refute it at one input. -/
def reconPostedWrong : ChangeSpec := { name := "reconPosted", fn := fun _ => fun
  | [d1, d2, d3] => { results := [.lit (.bool false)], args := [d1, d2, d3] }
  | _ => none }
def ReconPostedWrongFalsely : Prop := reconPostedRow.holds Tryd.pinned (OpenSpec.ofChange reconPostedWrong)

/- THE SECOND FORM. 'bulk': how many values and letters a reading holds, each counted each time it is reached (what is shared counts as often as it is met; a slice's spare places count too). A statement '..UptoSaid' is the law's where the arguments, and the package variables that the reading takes, are together of bulk at most 1048576: NARROWER than '..Said'. Prove '..Said' where nothing that the law and all that it calls make is longer than what came in: it says more and counts as full. Else prove '..UptoSaid'. A law counts once. -/
mutual
def uptoBulk {H : Type} : DataW H → Nat
  | .lit (.string bytes) => bytes.length + 1
  | .lit _ => 1
  | .nil => 1
  | .ptr d => uptoBulk d + 1
  | .slice elems spare => uptoBulkAll elems + uptoBulkAll spare + 1
  | .agg parts => uptoBulkAll parts + 1
  | .iface _ d => uptoBulk d + 1
  | .map entries => uptoBulkEntries entries + 1
  | .held _ => 1
def uptoBulkAll {H : Type} : List (DataW H) → Nat
  | [] => 0
  | d :: r => uptoBulk d + uptoBulkAll r
def uptoBulkEntries {H : Type} : List (Lit × DataW H) → Nat
  | [] => 0
  | x :: r => uptoBulkEntry x + uptoBulkEntries r
def uptoBulkEntry {H : Type} : Lit × DataW H → Nat
  | (.string bytes, d) => bytes.length + uptoBulk d + 1
  | (_, d) => uptoBulk d + 1
 end
def uptoSmall : (H : Type) → List (DataW H) → Bool := fun _ ds => decide (uptoBulkAll ds ≤ 1048576)
def OpenSpec.upto (s : _root_.Go.ChangeSpec) : _root_.Go.OpenSpec := { _root_.Go.OpenSpec.ofChange s with cond := some uptoSmall }

/-- 'accountinglaw20.LedgerKnown', WHERE WHAT IT READS IS OF BULK AT MOST 1048576: true; the input reads as it did. -/
def ledgerKnownUptoRow : OpenClaim := { program := "ytppcjoaghlecmaadoor", sum := "950f9dae109c2bac2d61da4005fab61ad799b1dfa121a2d43a969d32b00b2a7a", func := "accounting/accountinglaw20.LedgerKnown", spec := "ledgerKnown", inPlace := ["math/bits.Add64", "internal/bytealg.abigen_runtime_cmpstring"], unfollowed := true, recurses := true, named := ["accounting/days.lengths"], apart := false, laid := [("accounting/days.lengths", laid_accounting_days_lengths)], narrowed := true }
def LedgerKnownUptoSaid : Prop := ledgerKnownUptoRow.holds Tryd.pinned (OpenSpec.upto ledgerKnownSpec)

/-- 'accountinglaw20.LedgerNil', WHERE WHAT IT READS IS OF BULK AT MOST 1048576: true; the input reads as it did. -/
def ledgerNilUptoRow : OpenClaim := { program := "ytppcjoaghlecmaadoor", sum := "950f9dae109c2bac2d61da4005fab61ad799b1dfa121a2d43a969d32b00b2a7a", func := "accounting/accountinglaw20.LedgerNil", spec := "ledgerNil", inPlace := ["math/bits.Add64", "internal/bytealg.abigen_runtime_cmpstring"], unfollowed := true, recurses := true, named := ["accounting/days.lengths"], apart := false, laid := [("accounting/days.lengths", laid_accounting_days_lengths)], narrowed := true }
def LedgerNilUptoSaid : Prop := ledgerNilUptoRow.holds Tryd.pinned (OpenSpec.upto ledgerNilSpec)

/-- 'accountinglaw20.LedgerCells', WHERE WHAT IT READS IS OF BULK AT MOST 1048576: true; the input reads as it did. -/
def ledgerCellsUptoRow : OpenClaim := { program := "ytppcjoaghlecmaadoor", sum := "950f9dae109c2bac2d61da4005fab61ad799b1dfa121a2d43a969d32b00b2a7a", func := "accounting/accountinglaw20.LedgerCells", spec := "ledgerCells", inPlace := ["math/bits.Add64", "internal/bytealg.abigen_runtime_cmpstring"], unfollowed := true, recurses := true, named := ["accounting/days.lengths"], apart := false, laid := [("accounting/days.lengths", laid_accounting_days_lengths)], narrowed := true }
def LedgerCellsUptoSaid : Prop := ledgerCellsUptoRow.holds Tryd.pinned (OpenSpec.upto ledgerCellsSpec)

/-- 'accountinglaw20.LedgerReplays', WHERE WHAT IT READS IS OF BULK AT MOST 1048576: true; the input reads as it did. -/
def ledgerReplaysUptoRow : OpenClaim := { program := "ytppcjoaghlecmaadoor", sum := "950f9dae109c2bac2d61da4005fab61ad799b1dfa121a2d43a969d32b00b2a7a", func := "accounting/accountinglaw20.LedgerReplays", spec := "ledgerReplays", inPlace := ["math/bits.Add64", "internal/bytealg.abigen_runtime_cmpstring"], unfollowed := true, recurses := true, named := ["accounting/days.lengths"], apart := false, laid := [("accounting/days.lengths", laid_accounting_days_lengths)], narrowed := true }
def LedgerReplaysUptoSaid : Prop := ledgerReplaysUptoRow.holds Tryd.pinned (OpenSpec.upto ledgerReplaysSpec)

/-- 'accountinglaw20.LedgerFinds', WHERE WHAT IT READS IS OF BULK AT MOST 1048576: true; the input reads as it did. -/
def ledgerFindsUptoRow : OpenClaim := { program := "ytppcjoaghlecmaadoor", sum := "950f9dae109c2bac2d61da4005fab61ad799b1dfa121a2d43a969d32b00b2a7a", func := "accounting/accountinglaw20.LedgerFinds", spec := "ledgerFinds", inPlace := ["math/bits.Add64", "internal/bytealg.abigen_runtime_cmpstring"], unfollowed := true, recurses := true, named := ["accounting/days.lengths"], apart := false, laid := [("accounting/days.lengths", laid_accounting_days_lengths)], narrowed := true }
def LedgerFindsUptoSaid : Prop := ledgerFindsUptoRow.holds Tryd.pinned (OpenSpec.upto ledgerFindsSpec)

/-- 'accountinglaw20.LedgerBalances', WHERE WHAT IT READS IS OF BULK AT MOST 1048576: true; the input reads as it did. -/
def ledgerBalancesUptoRow : OpenClaim := { program := "ytppcjoaghlecmaadoor", sum := "950f9dae109c2bac2d61da4005fab61ad799b1dfa121a2d43a969d32b00b2a7a", func := "accounting/accountinglaw20.LedgerBalances", spec := "ledgerBalances", inPlace := ["math/bits.Add64", "internal/bytealg.abigen_runtime_cmpstring"], unfollowed := true, recurses := true, named := ["accounting/days.lengths"], apart := false, laid := [("accounting/days.lengths", laid_accounting_days_lengths)], narrowed := true }
def LedgerBalancesUptoSaid : Prop := ledgerBalancesUptoRow.holds Tryd.pinned (OpenSpec.upto ledgerBalancesSpec)

/-- 'accountinglaw20.LedgerDivides', WHERE WHAT IT READS IS OF BULK AT MOST 1048576: true; the input reads as it did. -/
def ledgerDividesUptoRow : OpenClaim := { program := "ytppcjoaghlecmaadoor", sum := "950f9dae109c2bac2d61da4005fab61ad799b1dfa121a2d43a969d32b00b2a7a", func := "accounting/accountinglaw20.LedgerDivides", spec := "ledgerDivides", inPlace := ["math/bits.Add64", "internal/bytealg.abigen_runtime_cmpstring"], unfollowed := true, recurses := true, named := ["accounting/days.lengths"], apart := false, laid := [("accounting/days.lengths", laid_accounting_days_lengths)], narrowed := true }
def LedgerDividesUptoSaid : Prop := ledgerDividesUptoRow.holds Tryd.pinned (OpenSpec.upto ledgerDividesSpec)

/-- 'accountinglaw20.LedgerEntities', WHERE WHAT IT READS IS OF BULK AT MOST 1048576: true; the input reads as it did. -/
def ledgerEntitiesUptoRow : OpenClaim := { program := "ytppcjoaghlecmaadoor", sum := "950f9dae109c2bac2d61da4005fab61ad799b1dfa121a2d43a969d32b00b2a7a", func := "accounting/accountinglaw20.LedgerEntities", spec := "ledgerEntities", inPlace := ["math/bits.Add64", "internal/bytealg.abigen_runtime_cmpstring"], unfollowed := true, recurses := true, named := ["accounting/days.lengths"], apart := false, laid := [("accounting/days.lengths", laid_accounting_days_lengths)], narrowed := true }
def LedgerEntitiesUptoSaid : Prop := ledgerEntitiesUptoRow.holds Tryd.pinned (OpenSpec.upto ledgerEntitiesSpec)

/-- 'accountinglaw50.ReconOf', WHERE WHAT IT READS IS OF BULK AT MOST 1048576: true; the input reads as it did. -/
def reconOfUptoRow : OpenClaim := { program := "ytppcjoaghlecmaadoor", sum := "950f9dae109c2bac2d61da4005fab61ad799b1dfa121a2d43a969d32b00b2a7a", func := "accounting/accountinglaw50.ReconOf", spec := "reconOf", inPlace := ["math/bits.Add64", "internal/bytealg.IndexByteString", "internal/bytealg.IndexString"], unfollowed := true, recurses := true, named := ["accounting/days.lengths", "internal/bytealg.MaxLen"], apart := false, laid := [("accounting/days.lengths", laid_accounting_days_lengths)], narrowed := true }
def ReconOfUptoSaid : Prop := reconOfUptoRow.holds Tryd.pinned (OpenSpec.upto reconOfSpec)

/-- 'accountinglaw50.ReconDiff', WHERE WHAT IT READS IS OF BULK AT MOST 1048576: true; the input reads as it did. -/
def reconDiffUptoRow : OpenClaim := { program := "ytppcjoaghlecmaadoor", sum := "950f9dae109c2bac2d61da4005fab61ad799b1dfa121a2d43a969d32b00b2a7a", func := "accounting/accountinglaw50.ReconDiff", spec := "reconDiff", inPlace := ["math/bits.Add64", "internal/bytealg.IndexByteString", "internal/bytealg.IndexString"], unfollowed := true, recurses := true, named := ["accounting/days.lengths", "internal/bytealg.MaxLen"], apart := false, laid := [("accounting/days.lengths", laid_accounting_days_lengths)], narrowed := true }
def ReconDiffUptoSaid : Prop := reconDiffUptoRow.holds Tryd.pinned (OpenSpec.upto reconDiffSpec)

/-- 'accountinglaw50.ReconLines', WHERE WHAT IT READS IS OF BULK AT MOST 1048576: true; the input reads as it did. -/
def reconLinesUptoRow : OpenClaim := { program := "ytppcjoaghlecmaadoor", sum := "950f9dae109c2bac2d61da4005fab61ad799b1dfa121a2d43a969d32b00b2a7a", func := "accounting/accountinglaw50.ReconLines", spec := "reconLines", inPlace := ["math/bits.Add64", "internal/bytealg.IndexByteString", "internal/bytealg.IndexString"], unfollowed := true, recurses := true, named := ["accounting/days.lengths", "internal/bytealg.MaxLen"], apart := false, laid := [("accounting/days.lengths", laid_accounting_days_lengths)], narrowed := true }
def ReconLinesUptoSaid : Prop := reconLinesUptoRow.holds Tryd.pinned (OpenSpec.upto reconLinesSpec)

/-- 'accountinglaw50.ReconRun', WHERE WHAT IT READS IS OF BULK AT MOST 1048576: true; the input reads as it did. -/
def reconRunUptoRow : OpenClaim := { program := "ytppcjoaghlecmaadoor", sum := "950f9dae109c2bac2d61da4005fab61ad799b1dfa121a2d43a969d32b00b2a7a", func := "accounting/accountinglaw50.ReconRun", spec := "reconRun", inPlace := ["math/bits.Add64", "internal/bytealg.IndexByteString", "internal/bytealg.IndexString"], unfollowed := true, recurses := true, named := ["accounting/days.lengths", "internal/bytealg.MaxLen"], apart := false, laid := [("accounting/days.lengths", laid_accounting_days_lengths)], narrowed := true }
def ReconRunUptoSaid : Prop := reconRunUptoRow.holds Tryd.pinned (OpenSpec.upto reconRunSpec)

/-- 'accountinglaw50.ReconPosted', WHERE WHAT IT READS IS OF BULK AT MOST 1048576: true; the input reads as it did. -/
def reconPostedUptoRow : OpenClaim := { program := "ytppcjoaghlecmaadoor", sum := "950f9dae109c2bac2d61da4005fab61ad799b1dfa121a2d43a969d32b00b2a7a", func := "accounting/accountinglaw50.ReconPosted", spec := "reconPosted", inPlace := ["math/bits.Add64", "internal/bytealg.IndexByteString", "internal/bytealg.IndexString"], unfollowed := true, recurses := true, named := ["accounting/days.lengths", "internal/bytealg.MaxLen"], apart := false, laid := [("accounting/days.lengths", laid_accounting_days_lengths)], narrowed := true }
def ReconPostedUptoSaid : Prop := reconPostedUptoRow.holds Tryd.pinned (OpenSpec.upto reconPostedSpec)

end Rows
end Go.Proofs.YtppcjoaghlecmaaDoor
