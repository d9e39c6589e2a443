/-
  No cell of these rows narrows 'for every input' (looked for: loops, veiled, ifaces, maps, wideKeys, modest, calm, conditions, laid).
  DERIVED. THE GIVEN ROWS OF THIS SEAT. 6 by the template 'for every input the law returns true; each argument reads behind the call as it read before'; 0 by the template 'total and deterministic' (their statements: YtbbhichndfbooaaTotals.lean).
  GIVEN WITH THE SEED: the statements are not yours to turn. If you find one false, say at which input.
  Laid BY PROGRAM, IN A SANDBOX (cutbox-rows.mjs): the forced cells as the released guide's own fill.sh prints them over the translation 65c83cd378fdd9f0… (all of the seat's roots in one cut). By AI agents, Wed Nov 11 2026. No macro, syntax, notation, axiom, sorry.
-/
import Derived.Test.YtbbhichndfbooaaChecked
import GoSem.Claim
import GoSem.ClaimJoined
import GoSem.ClaimMapViews
import Derived.JoinedTies
import Derived.KernelRfl
namespace Go.Proofs.Ytbbhichndfbooaa
/- THE CELL 'sum', in the pinned program and in every row, IS THE sha256 OF THE DUMP (.gsa) THAT YtbbhichndfbooaaProg.lean LOADS. Nothing in Lean hashes anything: it is a label: what it is worth is what the hold of that sum in a sandbox is worth. -/
noncomputable def Try.pinned : Pinned := { name := "ytbbhichndfbooaa", sum := "65c83cd378fdd9f024368cd8ad76bf6325e54228d063a26f5b83bf23873c000a", checked := Try.checked }
namespace Rows
def none {H : Type} : Left H := { results := [], args := [] }

/-- 'accountinglaw15.FlowNew': WHATEVER THE INPUT: true; the input reads as it did. -/
def flowNewSpec : ChangeSpec := { name := "flowNew", fn := fun _ => fun
  | [d1, d2] => { results := [.lit (.bool true)], args := [d1, d2] }
  | _ => none }
def flowNewRow : OpenClaim := { program := "ytbbhichndfbooaa", sum := "65c83cd378fdd9f024368cd8ad76bf6325e54228d063a26f5b83bf23873c000a", func := "accounting/accountinglaw15.FlowNew", spec := "flowNew", unfollowed := true, recurses := true, apart := false }
def FlowNewSaid : Prop := flowNewRow.holds Try.pinned (OpenSpec.ofChange flowNewSpec)

/-- ITS FALSE NEIGHBOUR: 'it returns false'. Refute it at one input. -/
def flowNewWrong : ChangeSpec := { name := "flowNew", fn := fun _ => fun
  | [d1, d2] => { results := [.lit (.bool false)], args := [d1, d2] }
  | _ => none }
def FlowNewWrongFalsely : Prop := flowNewRow.holds Try.pinned (OpenSpec.ofChange flowNewWrong)

/-- 'accountinglaw15.FlowApart': WHATEVER THE INPUT: true; the input reads as it did. -/
def flowApartSpec : ChangeSpec := { name := "flowApart", fn := fun _ => fun
  | [d1, d2] => { results := [.lit (.bool true)], args := [d1, d2] }
  | _ => none }
def flowApartRow : OpenClaim := { program := "ytbbhichndfbooaa", sum := "65c83cd378fdd9f024368cd8ad76bf6325e54228d063a26f5b83bf23873c000a", func := "accounting/accountinglaw15.FlowApart", spec := "flowApart", unfollowed := true, recurses := true, apart := false }
def FlowApartSaid : Prop := flowApartRow.holds Try.pinned (OpenSpec.ofChange flowApartSpec)

/-- ITS FALSE NEIGHBOUR: 'it returns false'. Refute it at one input. -/
def flowApartWrong : ChangeSpec := { name := "flowApart", fn := fun _ => fun
  | [d1, d2] => { results := [.lit (.bool false)], args := [d1, d2] }
  | _ => none }
def FlowApartWrongFalsely : Prop := flowApartRow.holds Try.pinned (OpenSpec.ofChange flowApartWrong)

/-- 'accountinglaw15.FlowPlays': WHATEVER THE INPUT: true; the input reads as it did. -/
def flowPlaysSpec : ChangeSpec := { name := "flowPlays", fn := fun _ => fun
  | [d1, d2] => { results := [.lit (.bool true)], args := [d1, d2] }
  | _ => none }
def flowPlaysRow : OpenClaim := { program := "ytbbhichndfbooaa", sum := "65c83cd378fdd9f024368cd8ad76bf6325e54228d063a26f5b83bf23873c000a", func := "accounting/accountinglaw15.FlowPlays", spec := "flowPlays", unfollowed := true, recurses := true, apart := false }
def FlowPlaysSaid : Prop := flowPlaysRow.holds Try.pinned (OpenSpec.ofChange flowPlaysSpec)

/-- ITS FALSE NEIGHBOUR: 'it returns false'. Refute it at one input. -/
def flowPlaysWrong : ChangeSpec := { name := "flowPlays", fn := fun _ => fun
  | [d1, d2] => { results := [.lit (.bool false)], args := [d1, d2] }
  | _ => none }
def FlowPlaysWrongFalsely : Prop := flowPlaysRow.holds Try.pinned (OpenSpec.ofChange flowPlaysWrong)

/-- 'accountinglaw15.FlowDuties': WHATEVER THE INPUT: true; the input reads as it did. -/
def flowDutiesSpec : ChangeSpec := { name := "flowDuties", fn := fun _ => fun
  | [d1, d2] => { results := [.lit (.bool true)], args := [d1, d2] }
  | _ => none }
def flowDutiesRow : OpenClaim := { program := "ytbbhichndfbooaa", sum := "65c83cd378fdd9f024368cd8ad76bf6325e54228d063a26f5b83bf23873c000a", func := "accounting/accountinglaw15.FlowDuties", spec := "flowDuties", unfollowed := true, recurses := true, apart := false }
def FlowDutiesSaid : Prop := flowDutiesRow.holds Try.pinned (OpenSpec.ofChange flowDutiesSpec)

/-- ITS FALSE NEIGHBOUR: 'it returns false'. Refute it at one input. -/
def flowDutiesWrong : ChangeSpec := { name := "flowDuties", fn := fun _ => fun
  | [d1, d2] => { results := [.lit (.bool false)], args := [d1, d2] }
  | _ => none }
def FlowDutiesWrongFalsely : Prop := flowDutiesRow.holds Try.pinned (OpenSpec.ofChange flowDutiesWrong)

/-- 'accountinglaw15.FlowAgain': WHATEVER THE INPUT: true; the input reads as it did. -/
def flowAgainSpec : ChangeSpec := { name := "flowAgain", fn := fun _ => fun
  | [d1, d2] => { results := [.lit (.bool true)], args := [d1, d2] }
  | _ => none }
def flowAgainRow : OpenClaim := { program := "ytbbhichndfbooaa", sum := "65c83cd378fdd9f024368cd8ad76bf6325e54228d063a26f5b83bf23873c000a", func := "accounting/accountinglaw15.FlowAgain", spec := "flowAgain", unfollowed := true, recurses := true, apart := false }
def FlowAgainSaid : Prop := flowAgainRow.holds Try.pinned (OpenSpec.ofChange flowAgainSpec)

/-- ITS FALSE NEIGHBOUR: 'it returns false'. Refute it at one input. -/
def flowAgainWrong : ChangeSpec := { name := "flowAgain", fn := fun _ => fun
  | [d1, d2] => { results := [.lit (.bool false)], args := [d1, d2] }
  | _ => none }
def FlowAgainWrongFalsely : Prop := flowAgainRow.holds Try.pinned (OpenSpec.ofChange flowAgainWrong)

/-- 'accountinglaw15.FlowNil': WHATEVER THE INPUT: true; the input reads as it did. -/
def flowNilSpec : ChangeSpec := { name := "flowNil", fn := fun _ => fun
  | [d] => { results := [.lit (.bool true)], args := [d] }
  | _ => none }
def flowNilRow : OpenClaim := { program := "ytbbhichndfbooaa", sum := "65c83cd378fdd9f024368cd8ad76bf6325e54228d063a26f5b83bf23873c000a", func := "accounting/accountinglaw15.FlowNil", spec := "flowNil", unfollowed := true, recurses := true, apart := false }
def FlowNilSaid : Prop := flowNilRow.holds Try.pinned (OpenSpec.ofChange flowNilSpec)

/-- ITS FALSE NEIGHBOUR: 'it returns false'. Refute it at one input. -/
def flowNilWrong : ChangeSpec := { name := "flowNil", fn := fun _ => fun
  | [d] => { results := [.lit (.bool false)], args := [d] }
  | _ => none }
def FlowNilWrongFalsely : Prop := flowNilRow.holds Try.pinned (OpenSpec.ofChange flowNilWrong)

/- THE SECOND FORM. 'bulk': how many values and letters a reading holds, each counted each time it is reached (what is shared counts as often as it is met; a slice's spare places count too). A statement '..UptoSaid' is the law's where the arguments, and the package variables that the reading takes, are together of bulk at most 1048576: NARROWER than '..Said'. Prove '..Said' where nothing that the law and all that it calls make is longer than what came in: it says more and counts as full. Else prove '..UptoSaid'. A law counts once. -/
mutual
def uptoBulk {H : Type} : DataW H → Nat
  | .lit (.string bytes) => bytes.length + 1
  | .lit _ => 1
  | .nil => 1
  | .ptr d => uptoBulk d + 1
  | .slice elems spare => uptoBulkAll elems + uptoBulkAll spare + 1
  | .agg parts => uptoBulkAll parts + 1
  | .iface _ d => uptoBulk d + 1
  | .map entries => uptoBulkEntries entries + 1
  | .held _ => 1
def uptoBulkAll {H : Type} : List (DataW H) → Nat
  | [] => 0
  | d :: r => uptoBulk d + uptoBulkAll r
def uptoBulkEntries {H : Type} : List (Lit × DataW H) → Nat
  | [] => 0
  | x :: r => uptoBulkEntry x + uptoBulkEntries r
def uptoBulkEntry {H : Type} : Lit × DataW H → Nat
  | (.string bytes, d) => bytes.length + uptoBulk d + 1
  | (_, d) => uptoBulk d + 1
 end
def uptoSmall : (H : Type) → List (DataW H) → Bool := fun _ ds => decide (uptoBulkAll ds ≤ 1048576)
def OpenSpec.upto (s : _root_.Go.ChangeSpec) : _root_.Go.OpenSpec := { _root_.Go.OpenSpec.ofChange s with cond := some uptoSmall }

/-- 'accountinglaw15.FlowNew', WHERE WHAT IT READS IS OF BULK AT MOST 1048576: true; the input reads as it did. -/
def flowNewUptoRow : OpenClaim := { program := "ytbbhichndfbooaa", sum := "65c83cd378fdd9f024368cd8ad76bf6325e54228d063a26f5b83bf23873c000a", func := "accounting/accountinglaw15.FlowNew", spec := "flowNew", unfollowed := true, recurses := true, apart := false, narrowed := true }
def FlowNewUptoSaid : Prop := flowNewUptoRow.holds Try.pinned (OpenSpec.upto flowNewSpec)

/-- 'accountinglaw15.FlowApart', WHERE WHAT IT READS IS OF BULK AT MOST 1048576: true; the input reads as it did. -/
def flowApartUptoRow : OpenClaim := { program := "ytbbhichndfbooaa", sum := "65c83cd378fdd9f024368cd8ad76bf6325e54228d063a26f5b83bf23873c000a", func := "accounting/accountinglaw15.FlowApart", spec := "flowApart", unfollowed := true, recurses := true, apart := false, narrowed := true }
def FlowApartUptoSaid : Prop := flowApartUptoRow.holds Try.pinned (OpenSpec.upto flowApartSpec)

/-- 'accountinglaw15.FlowPlays', WHERE WHAT IT READS IS OF BULK AT MOST 1048576: true; the input reads as it did. -/
def flowPlaysUptoRow : OpenClaim := { program := "ytbbhichndfbooaa", sum := "65c83cd378fdd9f024368cd8ad76bf6325e54228d063a26f5b83bf23873c000a", func := "accounting/accountinglaw15.FlowPlays", spec := "flowPlays", unfollowed := true, recurses := true, apart := false, narrowed := true }
def FlowPlaysUptoSaid : Prop := flowPlaysUptoRow.holds Try.pinned (OpenSpec.upto flowPlaysSpec)

/-- 'accountinglaw15.FlowDuties', WHERE WHAT IT READS IS OF BULK AT MOST 1048576: true; the input reads as it did. -/
def flowDutiesUptoRow : OpenClaim := { program := "ytbbhichndfbooaa", sum := "65c83cd378fdd9f024368cd8ad76bf6325e54228d063a26f5b83bf23873c000a", func := "accounting/accountinglaw15.FlowDuties", spec := "flowDuties", unfollowed := true, recurses := true, apart := false, narrowed := true }
def FlowDutiesUptoSaid : Prop := flowDutiesUptoRow.holds Try.pinned (OpenSpec.upto flowDutiesSpec)

/-- 'accountinglaw15.FlowAgain', WHERE WHAT IT READS IS OF BULK AT MOST 1048576: true; the input reads as it did. -/
def flowAgainUptoRow : OpenClaim := { program := "ytbbhichndfbooaa", sum := "65c83cd378fdd9f024368cd8ad76bf6325e54228d063a26f5b83bf23873c000a", func := "accounting/accountinglaw15.FlowAgain", spec := "flowAgain", unfollowed := true, recurses := true, apart := false, narrowed := true }
def FlowAgainUptoSaid : Prop := flowAgainUptoRow.holds Try.pinned (OpenSpec.upto flowAgainSpec)

/-- 'accountinglaw15.FlowNil', WHERE WHAT IT READS IS OF BULK AT MOST 1048576: true; the input reads as it did. -/
def flowNilUptoRow : OpenClaim := { program := "ytbbhichndfbooaa", sum := "65c83cd378fdd9f024368cd8ad76bf6325e54228d063a26f5b83bf23873c000a", func := "accounting/accountinglaw15.FlowNil", spec := "flowNil", unfollowed := true, recurses := true, apart := false, narrowed := true }
def FlowNilUptoSaid : Prop := flowNilUptoRow.holds Try.pinned (OpenSpec.upto flowNilSpec)

end Rows
end Go.Proofs.Ytbbhichndfbooaa
