/-
  No cell of these rows narrows 'for every input' (looked for: loops, veiled, ifaces, maps, wideKeys, modest, calm, conditions, laid).
  DERIVED. THE GIVEN ROWS OF THIS SEAT. 15 by the template 'for every input the law returns true; each argument reads behind the call as it read before'; 0 by the template 'total and deterministic' (their statements: YtmflggbpiadkjaaTotals.lean).
  GIVEN WITH THE SEED: the statements are not yours to turn. If you find one false, say at which input.
  Laid BY PROGRAM, IN A SANDBOX (cutbox-rows.mjs): the forced cells as the released guide's own fill.sh prints them over the translation 8a204dc52c83f41e… (all of the seat's roots in one cut). By AI agents, Wed Nov 11 2026. No macro, syntax, notation, axiom, sorry.
-/
import Derived.Test.YtmflggbpiadkjaaChecked
import GoSem.Claim
import GoSem.ClaimJoined
import GoSem.ClaimMapViews
import Derived.JoinedTies
import Derived.KernelRfl
namespace Go.Proofs.Ytmflggbpiadkjaa
/- THE CELL 'sum', in the pinned program and in every row, IS THE sha256 OF THE DUMP (.gsa) THAT YtmflggbpiadkjaaProg.lean LOADS. Nothing in Lean hashes anything: it is a label: what it is worth is what the hold of that sum in a sandbox is worth. -/
noncomputable def Try.pinned : Pinned := { name := "ytmflggbpiadkjaa", sum := "8a204dc52c83f41e9148a7d6a9f3783325e96f8aa1f8e635c3d36dd571e8afec", checked := Try.checked }
namespace Rows
def none {H : Type} : Left H := { results := [], args := [] }

/-- 'accountinglaw19.SheetOf': WHATEVER THE INPUT: true; the input reads as it did. -/
def sheetOfSpec : ChangeSpec := { name := "sheetOf", fn := fun _ => fun
  | [d] => { results := [.lit (.bool true)], args := [d] }
  | _ => none }
def sheetOfRow : OpenClaim := { program := "ytmflggbpiadkjaa", sum := "8a204dc52c83f41e9148a7d6a9f3783325e96f8aa1f8e635c3d36dd571e8afec", func := "accounting/accountinglaw19.SheetOf", spec := "sheetOf", inPlace := ["math/bits.Add64", "internal/bytealg.abigen_runtime_cmpstring"], unfollowed := true, recurses := true, plainKeys := false, apart := false }
def SheetOfSaid : Prop := sheetOfRow.holds Try.pinned (OpenSpec.ofChange sheetOfSpec)

/-- ITS FALSE NEIGHBOUR: 'it returns false'. Refute it at one input. -/
def sheetOfWrong : ChangeSpec := { name := "sheetOf", fn := fun _ => fun
  | [d] => { results := [.lit (.bool false)], args := [d] }
  | _ => none }
def SheetOfWrongFalsely : Prop := sheetOfRow.holds Try.pinned (OpenSpec.ofChange sheetOfWrong)

/-- 'accountinglaw19.SheetAny': WHATEVER THE INPUT: true; the input reads as it did. -/
def sheetAnySpec : ChangeSpec := { name := "sheetAny", fn := fun _ => fun
  | [d] => { results := [.lit (.bool true)], args := [d] }
  | _ => none }
def sheetAnyRow : OpenClaim := { program := "ytmflggbpiadkjaa", sum := "8a204dc52c83f41e9148a7d6a9f3783325e96f8aa1f8e635c3d36dd571e8afec", func := "accounting/accountinglaw19.SheetAny", spec := "sheetAny", inPlace := ["math/bits.Add64", "internal/bytealg.abigen_runtime_cmpstring"], unfollowed := true, recurses := true, plainKeys := false, apart := false }
def SheetAnySaid : Prop := sheetAnyRow.holds Try.pinned (OpenSpec.ofChange sheetAnySpec)

/-- ITS FALSE NEIGHBOUR: 'it returns false'. Refute it at one input. -/
def sheetAnyWrong : ChangeSpec := { name := "sheetAny", fn := fun _ => fun
  | [d] => { results := [.lit (.bool false)], args := [d] }
  | _ => none }
def SheetAnyWrongFalsely : Prop := sheetAnyRow.holds Try.pinned (OpenSpec.ofChange sheetAnyWrong)

/-- 'accountinglaw19.SheetFolds': WHATEVER THE INPUT: true; the input reads as it did. -/
def sheetFoldsSpec : ChangeSpec := { name := "sheetFolds", fn := fun _ => fun
  | [d1, d2] => { results := [.lit (.bool true)], args := [d1, d2] }
  | _ => none }
def sheetFoldsRow : OpenClaim := { program := "ytmflggbpiadkjaa", sum := "8a204dc52c83f41e9148a7d6a9f3783325e96f8aa1f8e635c3d36dd571e8afec", func := "accounting/accountinglaw19.SheetFolds", spec := "sheetFolds", inPlace := ["internal/bytealg.abigen_runtime_cmpstring", "math/bits.Add64"], unfollowed := true, recurses := true, plainKeys := false, apart := false }
def SheetFoldsSaid : Prop := sheetFoldsRow.holds Try.pinned (OpenSpec.ofChange sheetFoldsSpec)

/-- ITS FALSE NEIGHBOUR: 'it returns false'. Refute it at one input. -/
def sheetFoldsWrong : ChangeSpec := { name := "sheetFolds", fn := fun _ => fun
  | [d1, d2] => { results := [.lit (.bool false)], args := [d1, d2] }
  | _ => none }
def SheetFoldsWrongFalsely : Prop := sheetFoldsRow.holds Try.pinned (OpenSpec.ofChange sheetFoldsWrong)

/-- 'accountinglaw19.SheetKeeps': WHATEVER THE INPUT: true; the input reads as it did. -/
def sheetKeepsSpec : ChangeSpec := { name := "sheetKeeps", fn := fun _ => fun
  | [d1, d2, d3] => { results := [.lit (.bool true)], args := [d1, d2, d3] }
  | _ => none }
def sheetKeepsRow : OpenClaim := { program := "ytmflggbpiadkjaa", sum := "8a204dc52c83f41e9148a7d6a9f3783325e96f8aa1f8e635c3d36dd571e8afec", func := "accounting/accountinglaw19.SheetKeeps", spec := "sheetKeeps", inPlace := ["math/bits.Add64", "internal/bytealg.abigen_runtime_cmpstring"], unfollowed := true, recurses := true, plainKeys := false, apart := false }
def SheetKeepsSaid : Prop := sheetKeepsRow.holds Try.pinned (OpenSpec.ofChange sheetKeepsSpec)

/-- ITS FALSE NEIGHBOUR: 'it returns false'. Refute it at one input. -/
def sheetKeepsWrong : ChangeSpec := { name := "sheetKeeps", fn := fun _ => fun
  | [d1, d2, d3] => { results := [.lit (.bool false)], args := [d1, d2, d3] }
  | _ => none }
def SheetKeepsWrongFalsely : Prop := sheetKeepsRow.holds Try.pinned (OpenSpec.ofChange sheetKeepsWrong)

/-- 'accountinglaw19.SheetBases': WHATEVER THE INPUT: true; the input reads as it did. -/
def sheetBasesSpec : ChangeSpec := { name := "sheetBases", fn := fun _ => fun
  | [d] => { results := [.lit (.bool true)], args := [d] }
  | _ => none }
def sheetBasesRow : OpenClaim := { program := "ytmflggbpiadkjaa", sum := "8a204dc52c83f41e9148a7d6a9f3783325e96f8aa1f8e635c3d36dd571e8afec", func := "accounting/accountinglaw19.SheetBases", spec := "sheetBases", inPlace := ["math/bits.Add64", "internal/bytealg.abigen_runtime_cmpstring"], unfollowed := true, recurses := true, plainKeys := false, apart := false }
def SheetBasesSaid : Prop := sheetBasesRow.holds Try.pinned (OpenSpec.ofChange sheetBasesSpec)

/-- ITS FALSE NEIGHBOUR: 'it returns false'. Refute it at one input. -/
def sheetBasesWrong : ChangeSpec := { name := "sheetBases", fn := fun _ => fun
  | [d] => { results := [.lit (.bool false)], args := [d] }
  | _ => none }
def SheetBasesWrongFalsely : Prop := sheetBasesRow.holds Try.pinned (OpenSpec.ofChange sheetBasesWrong)

/-- 'accountinglaw19.SheetOrders': WHATEVER THE INPUT: true; the input reads as it did. -/
def sheetOrdersSpec : ChangeSpec := { name := "sheetOrders", fn := fun _ => fun
  | [d1, d2, d3] => { results := [.lit (.bool true)], args := [d1, d2, d3] }
  | _ => none }
def sheetOrdersRow : OpenClaim := { program := "ytmflggbpiadkjaa", sum := "8a204dc52c83f41e9148a7d6a9f3783325e96f8aa1f8e635c3d36dd571e8afec", func := "accounting/accountinglaw19.SheetOrders", spec := "sheetOrders", inPlace := ["internal/bytealg.abigen_runtime_cmpstring", "math/bits.Add64"], unfollowed := true, recurses := true, plainKeys := false, apart := false }
def SheetOrdersSaid : Prop := sheetOrdersRow.holds Try.pinned (OpenSpec.ofChange sheetOrdersSpec)

/-- ITS FALSE NEIGHBOUR: 'it returns false'. Refute it at one input. -/
def sheetOrdersWrong : ChangeSpec := { name := "sheetOrders", fn := fun _ => fun
  | [d1, d2, d3] => { results := [.lit (.bool false)], args := [d1, d2, d3] }
  | _ => none }
def SheetOrdersWrongFalsely : Prop := sheetOrdersRow.holds Try.pinned (OpenSpec.ofChange sheetOrdersWrong)

/-- 'accountinglaw19.SheetPicks': WHATEVER THE INPUT: true; the input reads as it did. -/
def sheetPicksSpec : ChangeSpec := { name := "sheetPicks", fn := fun _ => fun
  | [d1, d2] => { results := [.lit (.bool true)], args := [d1, d2] }
  | _ => none }
def sheetPicksRow : OpenClaim := { program := "ytmflggbpiadkjaa", sum := "8a204dc52c83f41e9148a7d6a9f3783325e96f8aa1f8e635c3d36dd571e8afec", func := "accounting/accountinglaw19.SheetPicks", spec := "sheetPicks", inPlace := ["math/bits.Add64", "internal/bytealg.abigen_runtime_cmpstring"], unfollowed := true, recurses := true, plainKeys := false, apart := false }
def SheetPicksSaid : Prop := sheetPicksRow.holds Try.pinned (OpenSpec.ofChange sheetPicksSpec)

/-- ITS FALSE NEIGHBOUR: 'it returns false'. Refute it at one input. -/
def sheetPicksWrong : ChangeSpec := { name := "sheetPicks", fn := fun _ => fun
  | [d1, d2] => { results := [.lit (.bool false)], args := [d1, d2] }
  | _ => none }
def SheetPicksWrongFalsely : Prop := sheetPicksRow.holds Try.pinned (OpenSpec.ofChange sheetPicksWrong)

/-- 'accountinglaw19.SheetGroup': WHATEVER THE INPUT: true; the input reads as it did. -/
def sheetGroupSpec : ChangeSpec := { name := "sheetGroup", fn := fun _ => fun
  | [d1, d2] => { results := [.lit (.bool true)], args := [d1, d2] }
  | _ => none }
def sheetGroupRow : OpenClaim := { program := "ytmflggbpiadkjaa", sum := "8a204dc52c83f41e9148a7d6a9f3783325e96f8aa1f8e635c3d36dd571e8afec", func := "accounting/accountinglaw19.SheetGroup", spec := "sheetGroup", inPlace := ["math/bits.Add64", "internal/bytealg.abigen_runtime_cmpstring"], unfollowed := true, recurses := true, plainKeys := false, apart := false }
def SheetGroupSaid : Prop := sheetGroupRow.holds Try.pinned (OpenSpec.ofChange sheetGroupSpec)

/-- ITS FALSE NEIGHBOUR: 'it returns false'. Refute it at one input. -/
def sheetGroupWrong : ChangeSpec := { name := "sheetGroup", fn := fun _ => fun
  | [d1, d2] => { results := [.lit (.bool false)], args := [d1, d2] }
  | _ => none }
def SheetGroupWrongFalsely : Prop := sheetGroupRow.holds Try.pinned (OpenSpec.ofChange sheetGroupWrong)

/-- 'accountinglaw19.SheetAdds': WHATEVER THE INPUT: true; the input reads as it did. -/
def sheetAddsSpec : ChangeSpec := { name := "sheetAdds", fn := fun _ => fun
  | [d1, d2] => { results := [.lit (.bool true)], args := [d1, d2] }
  | _ => none }
def sheetAddsRow : OpenClaim := { program := "ytmflggbpiadkjaa", sum := "8a204dc52c83f41e9148a7d6a9f3783325e96f8aa1f8e635c3d36dd571e8afec", func := "accounting/accountinglaw19.SheetAdds", spec := "sheetAdds", inPlace := ["internal/bytealg.abigen_runtime_cmpstring", "math/bits.Add64"], unfollowed := true, recurses := true, plainKeys := false, apart := false }
def SheetAddsSaid : Prop := sheetAddsRow.holds Try.pinned (OpenSpec.ofChange sheetAddsSpec)

/-- ITS FALSE NEIGHBOUR: 'it returns false'. Refute it at one input. -/
def sheetAddsWrong : ChangeSpec := { name := "sheetAdds", fn := fun _ => fun
  | [d1, d2] => { results := [.lit (.bool false)], args := [d1, d2] }
  | _ => none }
def SheetAddsWrongFalsely : Prop := sheetAddsRow.holds Try.pinned (OpenSpec.ofChange sheetAddsWrong)

/-- 'accountinglaw44.IntercoInside': WHATEVER THE INPUT: true; the input reads as it did. -/
def intercoInsideSpec : ChangeSpec := { name := "intercoInside", fn := fun _ => fun
  | [d1, d2] => { results := [.lit (.bool true)], args := [d1, d2] }
  | _ => none }
def intercoInsideRow : OpenClaim := { program := "ytmflggbpiadkjaa", sum := "8a204dc52c83f41e9148a7d6a9f3783325e96f8aa1f8e635c3d36dd571e8afec", func := "accounting/accountinglaw44.IntercoInside", spec := "intercoInside", inPlace := ["internal/bytealg.abigen_runtime_cmpstring", "math/bits.Add64"], unfollowed := true, recurses := true, plainKeys := false, apart := false }
def IntercoInsideSaid : Prop := intercoInsideRow.holds Try.pinned (OpenSpec.ofChange intercoInsideSpec)

/-- ITS FALSE NEIGHBOUR: 'it returns false'. Refute it at one input. -/
def intercoInsideWrong : ChangeSpec := { name := "intercoInside", fn := fun _ => fun
  | [d1, d2] => { results := [.lit (.bool false)], args := [d1, d2] }
  | _ => none }
def IntercoInsideWrongFalsely : Prop := intercoInsideRow.holds Try.pinned (OpenSpec.ofChange intercoInsideWrong)

/-- 'accountinglaw44.IntercoPairs': WHATEVER THE INPUT: true; the input reads as it did. -/
def intercoPairsSpec : ChangeSpec := { name := "intercoPairs", fn := fun _ => fun
  | [d1, d2] => { results := [.lit (.bool true)], args := [d1, d2] }
  | _ => none }
def intercoPairsRow : OpenClaim := { program := "ytmflggbpiadkjaa", sum := "8a204dc52c83f41e9148a7d6a9f3783325e96f8aa1f8e635c3d36dd571e8afec", func := "accounting/accountinglaw44.IntercoPairs", spec := "intercoPairs", inPlace := ["internal/bytealg.abigen_runtime_cmpstring", "math/bits.Add64"], unfollowed := true, recurses := true, plainKeys := false, apart := false }
def IntercoPairsSaid : Prop := intercoPairsRow.holds Try.pinned (OpenSpec.ofChange intercoPairsSpec)

/-- ITS FALSE NEIGHBOUR: 'it returns false'. Refute it at one input. -/
def intercoPairsWrong : ChangeSpec := { name := "intercoPairs", fn := fun _ => fun
  | [d1, d2] => { results := [.lit (.bool false)], args := [d1, d2] }
  | _ => none }
def IntercoPairsWrongFalsely : Prop := intercoPairsRow.holds Try.pinned (OpenSpec.ofChange intercoPairsWrong)

/-- 'accountinglaw44.IntercoEliminates': WHATEVER THE INPUT: true; the input reads as it did. -/
def intercoEliminatesSpec : ChangeSpec := { name := "intercoEliminates", fn := fun _ => fun
  | [d1, d2, d3, d4] => { results := [.lit (.bool true)], args := [d1, d2, d3, d4] }
  | _ => none }
def intercoEliminatesRow : OpenClaim := { program := "ytmflggbpiadkjaa", sum := "8a204dc52c83f41e9148a7d6a9f3783325e96f8aa1f8e635c3d36dd571e8afec", func := "accounting/accountinglaw44.IntercoEliminates", spec := "intercoEliminates", inPlace := ["internal/bytealg.abigen_runtime_cmpstring", "math/bits.Add64"], unfollowed := true, recurses := true, plainKeys := false, apart := false }
def IntercoEliminatesSaid : Prop := intercoEliminatesRow.holds Try.pinned (OpenSpec.ofChange intercoEliminatesSpec)

/-- ITS FALSE NEIGHBOUR: 'it returns false'. Refute it at one input. -/
def intercoEliminatesWrong : ChangeSpec := { name := "intercoEliminates", fn := fun _ => fun
  | [d1, d2, d3, d4] => { results := [.lit (.bool false)], args := [d1, d2, d3, d4] }
  | _ => none }
def IntercoEliminatesWrongFalsely : Prop := intercoEliminatesRow.holds Try.pinned (OpenSpec.ofChange intercoEliminatesWrong)

/-- 'accountinglaw44.IntercoZero': WHATEVER THE INPUT: true; the input reads as it did. -/
def intercoZeroSpec : ChangeSpec := { name := "intercoZero", fn := fun _ => fun
  | [d1, d2, d3, d4] => { results := [.lit (.bool true)], args := [d1, d2, d3, d4] }
  | _ => none }
def intercoZeroRow : OpenClaim := { program := "ytmflggbpiadkjaa", sum := "8a204dc52c83f41e9148a7d6a9f3783325e96f8aa1f8e635c3d36dd571e8afec", func := "accounting/accountinglaw44.IntercoZero", spec := "intercoZero", inPlace := ["internal/bytealg.abigen_runtime_cmpstring", "math/bits.Add64"], unfollowed := true, recurses := true, plainKeys := false, apart := false }
def IntercoZeroSaid : Prop := intercoZeroRow.holds Try.pinned (OpenSpec.ofChange intercoZeroSpec)

/-- ITS FALSE NEIGHBOUR: 'it returns false'. Refute it at one input. -/
def intercoZeroWrong : ChangeSpec := { name := "intercoZero", fn := fun _ => fun
  | [d1, d2, d3, d4] => { results := [.lit (.bool false)], args := [d1, d2, d3, d4] }
  | _ => none }
def IntercoZeroWrongFalsely : Prop := intercoZeroRow.holds Try.pinned (OpenSpec.ofChange intercoZeroWrong)

/-- 'accountinglaw44.IntercoGone': WHATEVER THE INPUT: true; the input reads as it did. -/
def intercoGoneSpec : ChangeSpec := { name := "intercoGone", fn := fun _ => fun
  | [d1, d2, d3, d4] => { results := [.lit (.bool true)], args := [d1, d2, d3, d4] }
  | _ => none }
def intercoGoneRow : OpenClaim := { program := "ytmflggbpiadkjaa", sum := "8a204dc52c83f41e9148a7d6a9f3783325e96f8aa1f8e635c3d36dd571e8afec", func := "accounting/accountinglaw44.IntercoGone", spec := "intercoGone", inPlace := ["internal/bytealg.abigen_runtime_cmpstring", "math/bits.Add64"], unfollowed := true, recurses := true, plainKeys := false, apart := false }
def IntercoGoneSaid : Prop := intercoGoneRow.holds Try.pinned (OpenSpec.ofChange intercoGoneSpec)

/-- ITS FALSE NEIGHBOUR: 'it returns false'. Refute it at one input. -/
def intercoGoneWrong : ChangeSpec := { name := "intercoGone", fn := fun _ => fun
  | [d1, d2, d3, d4] => { results := [.lit (.bool false)], args := [d1, d2, d3, d4] }
  | _ => none }
def IntercoGoneWrongFalsely : Prop := intercoGoneRow.holds Try.pinned (OpenSpec.ofChange intercoGoneWrong)

/-- 'accountinglaw44.IntercoOrder': WHATEVER THE INPUT: true; the input reads as it did. -/
def intercoOrderSpec : ChangeSpec := { name := "intercoOrder", fn := fun _ => fun
  | [d1, d2, d3, d4] => { results := [.lit (.bool true)], args := [d1, d2, d3, d4] }
  | _ => none }
def intercoOrderRow : OpenClaim := { program := "ytmflggbpiadkjaa", sum := "8a204dc52c83f41e9148a7d6a9f3783325e96f8aa1f8e635c3d36dd571e8afec", func := "accounting/accountinglaw44.IntercoOrder", spec := "intercoOrder", inPlace := ["internal/bytealg.abigen_runtime_cmpstring", "math/bits.Add64"], unfollowed := true, recurses := true, plainKeys := false, apart := false }
def IntercoOrderSaid : Prop := intercoOrderRow.holds Try.pinned (OpenSpec.ofChange intercoOrderSpec)

/-- ITS FALSE NEIGHBOUR: 'it returns false'. Refute it at one input. -/
def intercoOrderWrong : ChangeSpec := { name := "intercoOrder", fn := fun _ => fun
  | [d1, d2, d3, d4] => { results := [.lit (.bool false)], args := [d1, d2, d3, d4] }
  | _ => none }
def IntercoOrderWrongFalsely : Prop := intercoOrderRow.holds Try.pinned (OpenSpec.ofChange intercoOrderWrong)

/- THE SECOND FORM. 'bulk': how many values and letters a reading holds, each counted each time it is reached (what is shared counts as often as it is met; a slice's spare places count too). A statement '..UptoSaid' is the law's where the arguments, and the package variables that the reading takes, are together of bulk at most 1048576: NARROWER than '..Said'. Prove '..Said' where nothing that the law and all that it calls make is longer than what came in: it says more and counts as full. Else prove '..UptoSaid'. A law counts once. -/
mutual
def uptoBulk {H : Type} : DataW H → Nat
  | .lit (.string bytes) => bytes.length + 1
  | .lit _ => 1
  | .nil => 1
  | .ptr d => uptoBulk d + 1
  | .slice elems spare => uptoBulkAll elems + uptoBulkAll spare + 1
  | .agg parts => uptoBulkAll parts + 1
  | .iface _ d => uptoBulk d + 1
  | .map entries => uptoBulkEntries entries + 1
  | .held _ => 1
def uptoBulkAll {H : Type} : List (DataW H) → Nat
  | [] => 0
  | d :: r => uptoBulk d + uptoBulkAll r
def uptoBulkEntries {H : Type} : List (Lit × DataW H) → Nat
  | [] => 0
  | x :: r => uptoBulkEntry x + uptoBulkEntries r
def uptoBulkEntry {H : Type} : Lit × DataW H → Nat
  | (.string bytes, d) => bytes.length + uptoBulk d + 1
  | (_, d) => uptoBulk d + 1
 end
def uptoSmall : (H : Type) → List (DataW H) → Bool := fun _ ds => decide (uptoBulkAll ds ≤ 1048576)
def OpenSpec.upto (s : _root_.Go.ChangeSpec) : _root_.Go.OpenSpec := { _root_.Go.OpenSpec.ofChange s with cond := some uptoSmall }

/-- 'accountinglaw19.SheetOf', WHERE WHAT IT READS IS OF BULK AT MOST 1048576: true; the input reads as it did. -/
def sheetOfUptoRow : OpenClaim := { program := "ytmflggbpiadkjaa", sum := "8a204dc52c83f41e9148a7d6a9f3783325e96f8aa1f8e635c3d36dd571e8afec", func := "accounting/accountinglaw19.SheetOf", spec := "sheetOf", inPlace := ["math/bits.Add64", "internal/bytealg.abigen_runtime_cmpstring"], unfollowed := true, recurses := true, plainKeys := false, apart := false, narrowed := true }
def SheetOfUptoSaid : Prop := sheetOfUptoRow.holds Try.pinned (OpenSpec.upto sheetOfSpec)

/-- 'accountinglaw19.SheetAny', WHERE WHAT IT READS IS OF BULK AT MOST 1048576: true; the input reads as it did. -/
def sheetAnyUptoRow : OpenClaim := { program := "ytmflggbpiadkjaa", sum := "8a204dc52c83f41e9148a7d6a9f3783325e96f8aa1f8e635c3d36dd571e8afec", func := "accounting/accountinglaw19.SheetAny", spec := "sheetAny", inPlace := ["math/bits.Add64", "internal/bytealg.abigen_runtime_cmpstring"], unfollowed := true, recurses := true, plainKeys := false, apart := false, narrowed := true }
def SheetAnyUptoSaid : Prop := sheetAnyUptoRow.holds Try.pinned (OpenSpec.upto sheetAnySpec)

/-- 'accountinglaw19.SheetFolds', WHERE WHAT IT READS IS OF BULK AT MOST 1048576: true; the input reads as it did. -/
def sheetFoldsUptoRow : OpenClaim := { program := "ytmflggbpiadkjaa", sum := "8a204dc52c83f41e9148a7d6a9f3783325e96f8aa1f8e635c3d36dd571e8afec", func := "accounting/accountinglaw19.SheetFolds", spec := "sheetFolds", inPlace := ["internal/bytealg.abigen_runtime_cmpstring", "math/bits.Add64"], unfollowed := true, recurses := true, plainKeys := false, apart := false, narrowed := true }
def SheetFoldsUptoSaid : Prop := sheetFoldsUptoRow.holds Try.pinned (OpenSpec.upto sheetFoldsSpec)

/-- 'accountinglaw19.SheetKeeps', WHERE WHAT IT READS IS OF BULK AT MOST 1048576: true; the input reads as it did. -/
def sheetKeepsUptoRow : OpenClaim := { program := "ytmflggbpiadkjaa", sum := "8a204dc52c83f41e9148a7d6a9f3783325e96f8aa1f8e635c3d36dd571e8afec", func := "accounting/accountinglaw19.SheetKeeps", spec := "sheetKeeps", inPlace := ["math/bits.Add64", "internal/bytealg.abigen_runtime_cmpstring"], unfollowed := true, recurses := true, plainKeys := false, apart := false, narrowed := true }
def SheetKeepsUptoSaid : Prop := sheetKeepsUptoRow.holds Try.pinned (OpenSpec.upto sheetKeepsSpec)

/-- 'accountinglaw19.SheetBases', WHERE WHAT IT READS IS OF BULK AT MOST 1048576: true; the input reads as it did. -/
def sheetBasesUptoRow : OpenClaim := { program := "ytmflggbpiadkjaa", sum := "8a204dc52c83f41e9148a7d6a9f3783325e96f8aa1f8e635c3d36dd571e8afec", func := "accounting/accountinglaw19.SheetBases", spec := "sheetBases", inPlace := ["math/bits.Add64", "internal/bytealg.abigen_runtime_cmpstring"], unfollowed := true, recurses := true, plainKeys := false, apart := false, narrowed := true }
def SheetBasesUptoSaid : Prop := sheetBasesUptoRow.holds Try.pinned (OpenSpec.upto sheetBasesSpec)

/-- 'accountinglaw19.SheetOrders', WHERE WHAT IT READS IS OF BULK AT MOST 1048576: true; the input reads as it did. -/
def sheetOrdersUptoRow : OpenClaim := { program := "ytmflggbpiadkjaa", sum := "8a204dc52c83f41e9148a7d6a9f3783325e96f8aa1f8e635c3d36dd571e8afec", func := "accounting/accountinglaw19.SheetOrders", spec := "sheetOrders", inPlace := ["internal/bytealg.abigen_runtime_cmpstring", "math/bits.Add64"], unfollowed := true, recurses := true, plainKeys := false, apart := false, narrowed := true }
def SheetOrdersUptoSaid : Prop := sheetOrdersUptoRow.holds Try.pinned (OpenSpec.upto sheetOrdersSpec)

/-- 'accountinglaw19.SheetPicks', WHERE WHAT IT READS IS OF BULK AT MOST 1048576: true; the input reads as it did. -/
def sheetPicksUptoRow : OpenClaim := { program := "ytmflggbpiadkjaa", sum := "8a204dc52c83f41e9148a7d6a9f3783325e96f8aa1f8e635c3d36dd571e8afec", func := "accounting/accountinglaw19.SheetPicks", spec := "sheetPicks", inPlace := ["math/bits.Add64", "internal/bytealg.abigen_runtime_cmpstring"], unfollowed := true, recurses := true, plainKeys := false, apart := false, narrowed := true }
def SheetPicksUptoSaid : Prop := sheetPicksUptoRow.holds Try.pinned (OpenSpec.upto sheetPicksSpec)

/-- 'accountinglaw19.SheetGroup', WHERE WHAT IT READS IS OF BULK AT MOST 1048576: true; the input reads as it did. -/
def sheetGroupUptoRow : OpenClaim := { program := "ytmflggbpiadkjaa", sum := "8a204dc52c83f41e9148a7d6a9f3783325e96f8aa1f8e635c3d36dd571e8afec", func := "accounting/accountinglaw19.SheetGroup", spec := "sheetGroup", inPlace := ["math/bits.Add64", "internal/bytealg.abigen_runtime_cmpstring"], unfollowed := true, recurses := true, plainKeys := false, apart := false, narrowed := true }
def SheetGroupUptoSaid : Prop := sheetGroupUptoRow.holds Try.pinned (OpenSpec.upto sheetGroupSpec)

/-- 'accountinglaw19.SheetAdds', WHERE WHAT IT READS IS OF BULK AT MOST 1048576: true; the input reads as it did. -/
def sheetAddsUptoRow : OpenClaim := { program := "ytmflggbpiadkjaa", sum := "8a204dc52c83f41e9148a7d6a9f3783325e96f8aa1f8e635c3d36dd571e8afec", func := "accounting/accountinglaw19.SheetAdds", spec := "sheetAdds", inPlace := ["internal/bytealg.abigen_runtime_cmpstring", "math/bits.Add64"], unfollowed := true, recurses := true, plainKeys := false, apart := false, narrowed := true }
def SheetAddsUptoSaid : Prop := sheetAddsUptoRow.holds Try.pinned (OpenSpec.upto sheetAddsSpec)

/-- 'accountinglaw44.IntercoInside', WHERE WHAT IT READS IS OF BULK AT MOST 1048576: true; the input reads as it did. -/
def intercoInsideUptoRow : OpenClaim := { program := "ytmflggbpiadkjaa", sum := "8a204dc52c83f41e9148a7d6a9f3783325e96f8aa1f8e635c3d36dd571e8afec", func := "accounting/accountinglaw44.IntercoInside", spec := "intercoInside", inPlace := ["internal/bytealg.abigen_runtime_cmpstring", "math/bits.Add64"], unfollowed := true, recurses := true, plainKeys := false, apart := false, narrowed := true }
def IntercoInsideUptoSaid : Prop := intercoInsideUptoRow.holds Try.pinned (OpenSpec.upto intercoInsideSpec)

/-- 'accountinglaw44.IntercoPairs', WHERE WHAT IT READS IS OF BULK AT MOST 1048576: true; the input reads as it did. -/
def intercoPairsUptoRow : OpenClaim := { program := "ytmflggbpiadkjaa", sum := "8a204dc52c83f41e9148a7d6a9f3783325e96f8aa1f8e635c3d36dd571e8afec", func := "accounting/accountinglaw44.IntercoPairs", spec := "intercoPairs", inPlace := ["internal/bytealg.abigen_runtime_cmpstring", "math/bits.Add64"], unfollowed := true, recurses := true, plainKeys := false, apart := false, narrowed := true }
def IntercoPairsUptoSaid : Prop := intercoPairsUptoRow.holds Try.pinned (OpenSpec.upto intercoPairsSpec)

/-- 'accountinglaw44.IntercoEliminates', WHERE WHAT IT READS IS OF BULK AT MOST 1048576: true; the input reads as it did. -/
def intercoEliminatesUptoRow : OpenClaim := { program := "ytmflggbpiadkjaa", sum := "8a204dc52c83f41e9148a7d6a9f3783325e96f8aa1f8e635c3d36dd571e8afec", func := "accounting/accountinglaw44.IntercoEliminates", spec := "intercoEliminates", inPlace := ["internal/bytealg.abigen_runtime_cmpstring", "math/bits.Add64"], unfollowed := true, recurses := true, plainKeys := false, apart := false, narrowed := true }
def IntercoEliminatesUptoSaid : Prop := intercoEliminatesUptoRow.holds Try.pinned (OpenSpec.upto intercoEliminatesSpec)

/-- 'accountinglaw44.IntercoZero', WHERE WHAT IT READS IS OF BULK AT MOST 1048576: true; the input reads as it did. -/
def intercoZeroUptoRow : OpenClaim := { program := "ytmflggbpiadkjaa", sum := "8a204dc52c83f41e9148a7d6a9f3783325e96f8aa1f8e635c3d36dd571e8afec", func := "accounting/accountinglaw44.IntercoZero", spec := "intercoZero", inPlace := ["internal/bytealg.abigen_runtime_cmpstring", "math/bits.Add64"], unfollowed := true, recurses := true, plainKeys := false, apart := false, narrowed := true }
def IntercoZeroUptoSaid : Prop := intercoZeroUptoRow.holds Try.pinned (OpenSpec.upto intercoZeroSpec)

/-- 'accountinglaw44.IntercoGone', WHERE WHAT IT READS IS OF BULK AT MOST 1048576: true; the input reads as it did. -/
def intercoGoneUptoRow : OpenClaim := { program := "ytmflggbpiadkjaa", sum := "8a204dc52c83f41e9148a7d6a9f3783325e96f8aa1f8e635c3d36dd571e8afec", func := "accounting/accountinglaw44.IntercoGone", spec := "intercoGone", inPlace := ["internal/bytealg.abigen_runtime_cmpstring", "math/bits.Add64"], unfollowed := true, recurses := true, plainKeys := false, apart := false, narrowed := true }
def IntercoGoneUptoSaid : Prop := intercoGoneUptoRow.holds Try.pinned (OpenSpec.upto intercoGoneSpec)

/-- 'accountinglaw44.IntercoOrder', WHERE WHAT IT READS IS OF BULK AT MOST 1048576: true; the input reads as it did. -/
def intercoOrderUptoRow : OpenClaim := { program := "ytmflggbpiadkjaa", sum := "8a204dc52c83f41e9148a7d6a9f3783325e96f8aa1f8e635c3d36dd571e8afec", func := "accounting/accountinglaw44.IntercoOrder", spec := "intercoOrder", inPlace := ["internal/bytealg.abigen_runtime_cmpstring", "math/bits.Add64"], unfollowed := true, recurses := true, plainKeys := false, apart := false, narrowed := true }
def IntercoOrderUptoSaid : Prop := intercoOrderUptoRow.holds Try.pinned (OpenSpec.upto intercoOrderSpec)

end Rows
end Go.Proofs.Ytmflggbpiadkjaa
