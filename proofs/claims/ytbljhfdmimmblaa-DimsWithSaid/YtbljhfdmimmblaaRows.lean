/-
  No cell of these rows narrows 'for every input' (looked for: loops, veiled, ifaces, maps, wideKeys, modest, calm, conditions, laid).
  DERIVED. THE GIVEN ROWS OF THIS SEAT. 5 by the template 'for every input the law returns true; each argument reads behind the call as it read before'; 0 by the template 'total and deterministic' (their statements: YtbljhfdmimmblaaTotals.lean).
  GIVEN WITH THE SEED: the statements are not yours to turn. If you find one false, say at which input.
  Laid BY PROGRAM, IN A SANDBOX (cutbox-rows.mjs): the forced cells as the released guide's own fill.sh prints them over the translation a9ccad5a6379600d… (all of the seat's roots in one cut). By AI agents, Wed Nov 11 2026. No macro, syntax, notation, axiom, sorry.
-/
import Derived.Test.YtbljhfdmimmblaaChecked
import GoSem.Claim
import GoSem.ClaimJoined
import GoSem.ClaimMapViews
import Derived.JoinedTies
import Derived.KernelRfl
namespace Go.Proofs.Ytbljhfdmimmblaa
/- THE CELL 'sum', in the pinned program and in every row, IS THE sha256 OF THE DUMP (.gsa) THAT YtbljhfdmimmblaaProg.lean LOADS. Nothing in Lean hashes anything: it is a label: what it is worth is what the hold of that sum in a sandbox is worth. -/
noncomputable def Try.pinned : Pinned := { name := "ytbljhfdmimmblaa", sum := "a9ccad5a6379600db178c14a922f53bad1bbea96467bb68e5eef50f83f00ad9c", checked := Try.checked }
namespace Rows
def none {H : Type} : Left H := { results := [], args := [] }

/-- 'accountinglaw09.DimsMake': WHATEVER THE INPUT: true; the input reads as it did. -/
def dimsMakeSpec : ChangeSpec := { name := "dimsMake", fn := fun _ => fun
  | [d] => { results := [.lit (.bool true)], args := [d] }
  | _ => none }
def dimsMakeRow : OpenClaim := { program := "ytbljhfdmimmblaa", sum := "a9ccad5a6379600db178c14a922f53bad1bbea96467bb68e5eef50f83f00ad9c", func := "accounting/accountinglaw09.DimsMake", spec := "dimsMake", inPlace := ["internal/bytealg.IndexByteString", "internal/bytealg.IndexString"], unfollowed := true, recurses := true, named := ["internal/bytealg.MaxLen"], apart := false }
def DimsMakeSaid : Prop := dimsMakeRow.holds Try.pinned (OpenSpec.ofChange dimsMakeSpec)

/-- ITS FALSE NEIGHBOUR: 'it returns false'. Refute it at one input. -/
def dimsMakeWrong : ChangeSpec := { name := "dimsMake", fn := fun _ => fun
  | [d] => { results := [.lit (.bool false)], args := [d] }
  | _ => none }
def DimsMakeWrongFalsely : Prop := dimsMakeRow.holds Try.pinned (OpenSpec.ofChange dimsMakeWrong)

/-- 'accountinglaw09.DimsMatch': WHATEVER THE INPUT: true; the input reads as it did. -/
def dimsMatchSpec : ChangeSpec := { name := "dimsMatch", fn := fun _ => fun
  | [d1, d2] => { results := [.lit (.bool true)], args := [d1, d2] }
  | _ => none }
def dimsMatchRow : OpenClaim := { program := "ytbljhfdmimmblaa", sum := "a9ccad5a6379600db178c14a922f53bad1bbea96467bb68e5eef50f83f00ad9c", func := "accounting/accountinglaw09.DimsMatch", spec := "dimsMatch", inPlace := ["internal/bytealg.IndexByteString", "internal/bytealg.IndexString"], unfollowed := true, recurses := true, named := ["internal/bytealg.MaxLen"], apart := false }
def DimsMatchSaid : Prop := dimsMatchRow.holds Try.pinned (OpenSpec.ofChange dimsMatchSpec)

/-- ITS FALSE NEIGHBOUR: 'it returns false'. Refute it at one input. -/
def dimsMatchWrong : ChangeSpec := { name := "dimsMatch", fn := fun _ => fun
  | [d1, d2] => { results := [.lit (.bool false)], args := [d1, d2] }
  | _ => none }
def DimsMatchWrongFalsely : Prop := dimsMatchRow.holds Try.pinned (OpenSpec.ofChange dimsMatchWrong)

/-- 'accountinglaw09.DimsText': WHATEVER THE INPUT: true; the input reads as it did. -/
def dimsTextSpec : ChangeSpec := { name := "dimsText", fn := fun _ => fun
  | [d1, d2] => { results := [.lit (.bool true)], args := [d1, d2] }
  | _ => none }
def dimsTextRow : OpenClaim := { program := "ytbljhfdmimmblaa", sum := "a9ccad5a6379600db178c14a922f53bad1bbea96467bb68e5eef50f83f00ad9c", func := "accounting/accountinglaw09.DimsText", spec := "dimsText", inPlace := ["internal/bytealg.IndexByteString", "internal/bytealg.IndexString"], unfollowed := true, recurses := true, named := ["internal/bytealg.MaxLen"], apart := false }
def DimsTextSaid : Prop := dimsTextRow.holds Try.pinned (OpenSpec.ofChange dimsTextSpec)

/-- ITS FALSE NEIGHBOUR: 'it returns false'. Refute it at one input. -/
def dimsTextWrong : ChangeSpec := { name := "dimsText", fn := fun _ => fun
  | [d1, d2] => { results := [.lit (.bool false)], args := [d1, d2] }
  | _ => none }
def DimsTextWrongFalsely : Prop := dimsTextRow.holds Try.pinned (OpenSpec.ofChange dimsTextWrong)

/-- 'accountinglaw09.DimsBack': WHATEVER THE INPUT: true; the input reads as it did. -/
def dimsBackSpec : ChangeSpec := { name := "dimsBack", fn := fun _ => fun
  | [d1, d2] => { results := [.lit (.bool true)], args := [d1, d2] }
  | _ => none }
def dimsBackRow : OpenClaim := { program := "ytbljhfdmimmblaa", sum := "a9ccad5a6379600db178c14a922f53bad1bbea96467bb68e5eef50f83f00ad9c", func := "accounting/accountinglaw09.DimsBack", spec := "dimsBack", inPlace := ["internal/bytealg.IndexByteString", "internal/bytealg.IndexString"], unfollowed := true, recurses := true, named := ["internal/bytealg.MaxLen"], apart := false }
def DimsBackSaid : Prop := dimsBackRow.holds Try.pinned (OpenSpec.ofChange dimsBackSpec)

/-- ITS FALSE NEIGHBOUR: 'it returns false'. Refute it at one input. -/
def dimsBackWrong : ChangeSpec := { name := "dimsBack", fn := fun _ => fun
  | [d1, d2] => { results := [.lit (.bool false)], args := [d1, d2] }
  | _ => none }
def DimsBackWrongFalsely : Prop := dimsBackRow.holds Try.pinned (OpenSpec.ofChange dimsBackWrong)

/-- 'accountinglaw09.DimsWith': WHATEVER THE INPUT: true; the input reads as it did. -/
def dimsWithSpec : ChangeSpec := { name := "dimsWith", fn := fun _ => fun
  | [d1, d2] => { results := [.lit (.bool true)], args := [d1, d2] }
  | _ => none }
def dimsWithRow : OpenClaim := { program := "ytbljhfdmimmblaa", sum := "a9ccad5a6379600db178c14a922f53bad1bbea96467bb68e5eef50f83f00ad9c", func := "accounting/accountinglaw09.DimsWith", spec := "dimsWith", inPlace := ["internal/bytealg.IndexByteString", "internal/bytealg.IndexString"], unfollowed := true, recurses := true, named := ["internal/bytealg.MaxLen"], apart := false }
def DimsWithSaid : Prop := dimsWithRow.holds Try.pinned (OpenSpec.ofChange dimsWithSpec)

/-- ITS FALSE NEIGHBOUR: 'it returns false'. Refute it at one input. -/
def dimsWithWrong : ChangeSpec := { name := "dimsWith", fn := fun _ => fun
  | [d1, d2] => { results := [.lit (.bool false)], args := [d1, d2] }
  | _ => none }
def DimsWithWrongFalsely : Prop := dimsWithRow.holds Try.pinned (OpenSpec.ofChange dimsWithWrong)

/- THE SECOND FORM. 'bulk': how many values and letters a reading holds, each counted each time it is reached (what is shared counts as often as it is met; a slice's spare places count too). A statement '..UptoSaid' is the law's where the arguments, and the package variables that the reading takes, are together of bulk at most 1048576: NARROWER than '..Said'. Prove '..Said' where nothing that the law and all that it calls make is longer than what came in: it says more and counts as full. Else prove '..UptoSaid'. A law counts once. -/
mutual
def uptoBulk {H : Type} : DataW H → Nat
  | .lit (.string bytes) => bytes.length + 1
  | .lit _ => 1
  | .nil => 1
  | .ptr d => uptoBulk d + 1
  | .slice elems spare => uptoBulkAll elems + uptoBulkAll spare + 1
  | .agg parts => uptoBulkAll parts + 1
  | .iface _ d => uptoBulk d + 1
  | .map entries => uptoBulkEntries entries + 1
  | .held _ => 1
def uptoBulkAll {H : Type} : List (DataW H) → Nat
  | [] => 0
  | d :: r => uptoBulk d + uptoBulkAll r
def uptoBulkEntries {H : Type} : List (Lit × DataW H) → Nat
  | [] => 0
  | x :: r => uptoBulkEntry x + uptoBulkEntries r
def uptoBulkEntry {H : Type} : Lit × DataW H → Nat
  | (.string bytes, d) => bytes.length + uptoBulk d + 1
  | (_, d) => uptoBulk d + 1
 end
def uptoSmall : (H : Type) → List (DataW H) → Bool := fun _ ds => decide (uptoBulkAll ds ≤ 1048576)
def OpenSpec.upto (s : _root_.Go.ChangeSpec) : _root_.Go.OpenSpec := { _root_.Go.OpenSpec.ofChange s with cond := some uptoSmall }

/-- 'accountinglaw09.DimsMake', WHERE WHAT IT READS IS OF BULK AT MOST 1048576: true; the input reads as it did. -/
def dimsMakeUptoRow : OpenClaim := { program := "ytbljhfdmimmblaa", sum := "a9ccad5a6379600db178c14a922f53bad1bbea96467bb68e5eef50f83f00ad9c", func := "accounting/accountinglaw09.DimsMake", spec := "dimsMake", inPlace := ["internal/bytealg.IndexByteString", "internal/bytealg.IndexString"], unfollowed := true, recurses := true, named := ["internal/bytealg.MaxLen"], apart := false, narrowed := true }
def DimsMakeUptoSaid : Prop := dimsMakeUptoRow.holds Try.pinned (OpenSpec.upto dimsMakeSpec)

/-- 'accountinglaw09.DimsMatch', WHERE WHAT IT READS IS OF BULK AT MOST 1048576: true; the input reads as it did. -/
def dimsMatchUptoRow : OpenClaim := { program := "ytbljhfdmimmblaa", sum := "a9ccad5a6379600db178c14a922f53bad1bbea96467bb68e5eef50f83f00ad9c", func := "accounting/accountinglaw09.DimsMatch", spec := "dimsMatch", inPlace := ["internal/bytealg.IndexByteString", "internal/bytealg.IndexString"], unfollowed := true, recurses := true, named := ["internal/bytealg.MaxLen"], apart := false, narrowed := true }
def DimsMatchUptoSaid : Prop := dimsMatchUptoRow.holds Try.pinned (OpenSpec.upto dimsMatchSpec)

/-- 'accountinglaw09.DimsText', WHERE WHAT IT READS IS OF BULK AT MOST 1048576: true; the input reads as it did. -/
def dimsTextUptoRow : OpenClaim := { program := "ytbljhfdmimmblaa", sum := "a9ccad5a6379600db178c14a922f53bad1bbea96467bb68e5eef50f83f00ad9c", func := "accounting/accountinglaw09.DimsText", spec := "dimsText", inPlace := ["internal/bytealg.IndexByteString", "internal/bytealg.IndexString"], unfollowed := true, recurses := true, named := ["internal/bytealg.MaxLen"], apart := false, narrowed := true }
def DimsTextUptoSaid : Prop := dimsTextUptoRow.holds Try.pinned (OpenSpec.upto dimsTextSpec)

/-- 'accountinglaw09.DimsBack', WHERE WHAT IT READS IS OF BULK AT MOST 1048576: true; the input reads as it did. -/
def dimsBackUptoRow : OpenClaim := { program := "ytbljhfdmimmblaa", sum := "a9ccad5a6379600db178c14a922f53bad1bbea96467bb68e5eef50f83f00ad9c", func := "accounting/accountinglaw09.DimsBack", spec := "dimsBack", inPlace := ["internal/bytealg.IndexByteString", "internal/bytealg.IndexString"], unfollowed := true, recurses := true, named := ["internal/bytealg.MaxLen"], apart := false, narrowed := true }
def DimsBackUptoSaid : Prop := dimsBackUptoRow.holds Try.pinned (OpenSpec.upto dimsBackSpec)

/-- 'accountinglaw09.DimsWith', WHERE WHAT IT READS IS OF BULK AT MOST 1048576: true; the input reads as it did. -/
def dimsWithUptoRow : OpenClaim := { program := "ytbljhfdmimmblaa", sum := "a9ccad5a6379600db178c14a922f53bad1bbea96467bb68e5eef50f83f00ad9c", func := "accounting/accountinglaw09.DimsWith", spec := "dimsWith", inPlace := ["internal/bytealg.IndexByteString", "internal/bytealg.IndexString"], unfollowed := true, recurses := true, named := ["internal/bytealg.MaxLen"], apart := false, narrowed := true }
def DimsWithUptoSaid : Prop := dimsWithUptoRow.holds Try.pinned (OpenSpec.upto dimsWithSpec)

end Rows
end Go.Proofs.Ytbljhfdmimmblaa
