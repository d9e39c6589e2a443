/-
  No cell of these rows narrows 'for every input' (looked for: loops, veiled, ifaces, maps, wideKeys, modest, calm, conditions, laid).
  DERIVED. THE GIVEN ROWS OF THIS SEAT. 7 by the template 'for every input the law returns true; each argument reads behind the call as it read before'; 0 by the template 'total and deterministic' (their statements: YtlcjajcjoflpkaaTotals.lean).
  GIVEN WITH THE SEED: the statements are not yours to turn. If you find one false, say at which input.
  Laid BY PROGRAM, IN A SANDBOX (cutbox-rows.mjs): the forced cells as the released guide's own fill.sh prints them over the translation 4ad234627c4f8721… (all of the seat's roots in one cut). By AI agents, Wed Nov 11 2026. No macro, syntax, notation, axiom, sorry.
-/
import Derived.Test.YtlcjajcjoflpkaaChecked
import GoSem.Claim
import GoSem.ClaimJoined
import GoSem.ClaimMapViews
import Derived.JoinedTies
import Derived.KernelRfl
namespace Go.Proofs.Ytlcjajcjoflpkaa
/- THE CELL 'sum', in the pinned program and in every row, IS THE sha256 OF THE DUMP (.gsa) THAT YtlcjajcjoflpkaaProg.lean LOADS. Nothing in Lean hashes anything: it is a label: what it is worth is what the hold of that sum in a sandbox is worth. -/
noncomputable def Try.pinned : Pinned := { name := "ytlcjajcjoflpkaa", sum := "4ad234627c4f87215a086436aafedc6e80676e13628d21ec16fd3c20676fb19d", checked := Try.checked }
namespace Rows
def none {H : Type} : Left H := { results := [], args := [] }

/-- 'accountinglaw06.WordsCode': WHATEVER THE INPUT: true; the input reads as it did. -/
def wordsCodeSpec : ChangeSpec := { name := "wordsCode", fn := fun _ => fun
  | [d] => { results := [.lit (.bool true)], args := [d] }
  | _ => none }
def wordsCodeRow : OpenClaim := { program := "ytlcjajcjoflpkaa", sum := "4ad234627c4f87215a086436aafedc6e80676e13628d21ec16fd3c20676fb19d", func := "accounting/accountinglaw06.WordsCode", spec := "wordsCode", unfollowed := true, recurses := true, apart := false }
def WordsCodeSaid : Prop := wordsCodeRow.holds Try.pinned (OpenSpec.ofChange wordsCodeSpec)

/-- ITS FALSE NEIGHBOUR: 'it returns false'. Refute it at one input. -/
def wordsCodeWrong : ChangeSpec := { name := "wordsCode", fn := fun _ => fun
  | [d] => { results := [.lit (.bool false)], args := [d] }
  | _ => none }
def WordsCodeWrongFalsely : Prop := wordsCodeRow.holds Try.pinned (OpenSpec.ofChange wordsCodeWrong)

/-- 'accountinglaw06.WordsCut': WHATEVER THE INPUT: true; the input reads as it did. -/
def wordsCutSpec : ChangeSpec := { name := "wordsCut", fn := fun _ => fun
  | [d] => { results := [.lit (.bool true)], args := [d] }
  | _ => none }
def wordsCutRow : OpenClaim := { program := "ytlcjajcjoflpkaa", sum := "4ad234627c4f87215a086436aafedc6e80676e13628d21ec16fd3c20676fb19d", func := "accounting/accountinglaw06.WordsCut", spec := "wordsCut", unfollowed := true, recurses := true, apart := false }
def WordsCutSaid : Prop := wordsCutRow.holds Try.pinned (OpenSpec.ofChange wordsCutSpec)

/-- ITS FALSE NEIGHBOUR: 'it returns false'. Refute it at one input. -/
def wordsCutWrong : ChangeSpec := { name := "wordsCut", fn := fun _ => fun
  | [d] => { results := [.lit (.bool false)], args := [d] }
  | _ => none }
def WordsCutWrongFalsely : Prop := wordsCutRow.holds Try.pinned (OpenSpec.ofChange wordsCutWrong)

/-- 'accountinglaw06.WordsQuote': WHATEVER THE INPUT: true; the input reads as it did. -/
def wordsQuoteSpec : ChangeSpec := { name := "wordsQuote", fn := fun _ => fun
  | [d] => { results := [.lit (.bool true)], args := [d] }
  | _ => none }
def wordsQuoteRow : OpenClaim := { program := "ytlcjajcjoflpkaa", sum := "4ad234627c4f87215a086436aafedc6e80676e13628d21ec16fd3c20676fb19d", func := "accounting/accountinglaw06.WordsQuote", spec := "wordsQuote", unfollowed := true, recurses := true, apart := false }
def WordsQuoteSaid : Prop := wordsQuoteRow.holds Try.pinned (OpenSpec.ofChange wordsQuoteSpec)

/-- ITS FALSE NEIGHBOUR: 'it returns false'. Refute it at one input. -/
def wordsQuoteWrong : ChangeSpec := { name := "wordsQuote", fn := fun _ => fun
  | [d] => { results := [.lit (.bool false)], args := [d] }
  | _ => none }
def WordsQuoteWrongFalsely : Prop := wordsQuoteRow.holds Try.pinned (OpenSpec.ofChange wordsQuoteWrong)

/-- 'accountinglaw06.WordsJoin': WHATEVER THE INPUT: true; the input reads as it did. -/
def wordsJoinSpec : ChangeSpec := { name := "wordsJoin", fn := fun _ => fun
  | [d] => { results := [.lit (.bool true)], args := [d] }
  | _ => none }
def wordsJoinRow : OpenClaim := { program := "ytlcjajcjoflpkaa", sum := "4ad234627c4f87215a086436aafedc6e80676e13628d21ec16fd3c20676fb19d", func := "accounting/accountinglaw06.WordsJoin", spec := "wordsJoin", unfollowed := true, recurses := true, apart := false }
def WordsJoinSaid : Prop := wordsJoinRow.holds Try.pinned (OpenSpec.ofChange wordsJoinSpec)

/-- ITS FALSE NEIGHBOUR: 'it returns false'. Refute it at one input. -/
def wordsJoinWrong : ChangeSpec := { name := "wordsJoin", fn := fun _ => fun
  | [d] => { results := [.lit (.bool false)], args := [d] }
  | _ => none }
def WordsJoinWrongFalsely : Prop := wordsJoinRow.holds Try.pinned (OpenSpec.ofChange wordsJoinWrong)

/-- 'accountinglaw06.WordsBack': WHATEVER THE INPUT: true; the input reads as it did. -/
def wordsBackSpec : ChangeSpec := { name := "wordsBack", fn := fun _ => fun
  | [d] => { results := [.lit (.bool true)], args := [d] }
  | _ => none }
def wordsBackRow : OpenClaim := { program := "ytlcjajcjoflpkaa", sum := "4ad234627c4f87215a086436aafedc6e80676e13628d21ec16fd3c20676fb19d", func := "accounting/accountinglaw06.WordsBack", spec := "wordsBack", unfollowed := true, recurses := true, apart := false }
def WordsBackSaid : Prop := wordsBackRow.holds Try.pinned (OpenSpec.ofChange wordsBackSpec)

/-- ITS FALSE NEIGHBOUR: 'it returns false'. Refute it at one input. -/
def wordsBackWrong : ChangeSpec := { name := "wordsBack", fn := fun _ => fun
  | [d] => { results := [.lit (.bool false)], args := [d] }
  | _ => none }
def WordsBackWrongFalsely : Prop := wordsBackRow.holds Try.pinned (OpenSpec.ofChange wordsBackWrong)

/-- 'accountinglaw06.WordsStable': WHATEVER THE INPUT: true; the input reads as it did. -/
def wordsStableSpec : ChangeSpec := { name := "wordsStable", fn := fun _ => fun
  | [d] => { results := [.lit (.bool true)], args := [d] }
  | _ => none }
def wordsStableRow : OpenClaim := { program := "ytlcjajcjoflpkaa", sum := "4ad234627c4f87215a086436aafedc6e80676e13628d21ec16fd3c20676fb19d", func := "accounting/accountinglaw06.WordsStable", spec := "wordsStable", unfollowed := true, recurses := true, apart := false }
def WordsStableSaid : Prop := wordsStableRow.holds Try.pinned (OpenSpec.ofChange wordsStableSpec)

/-- ITS FALSE NEIGHBOUR: 'it returns false'. Refute it at one input. -/
def wordsStableWrong : ChangeSpec := { name := "wordsStable", fn := fun _ => fun
  | [d] => { results := [.lit (.bool false)], args := [d] }
  | _ => none }
def WordsStableWrongFalsely : Prop := wordsStableRow.holds Try.pinned (OpenSpec.ofChange wordsStableWrong)

/-- 'accountinglaw06.WordsComment': WHATEVER THE INPUT: true; the input reads as it did. -/
def wordsCommentSpec : ChangeSpec := { name := "wordsComment", fn := fun _ => fun
  | [d1, d2] => { results := [.lit (.bool true)], args := [d1, d2] }
  | _ => none }
def wordsCommentRow : OpenClaim := { program := "ytlcjajcjoflpkaa", sum := "4ad234627c4f87215a086436aafedc6e80676e13628d21ec16fd3c20676fb19d", func := "accounting/accountinglaw06.WordsComment", spec := "wordsComment", unfollowed := true, recurses := true, apart := false }
def WordsCommentSaid : Prop := wordsCommentRow.holds Try.pinned (OpenSpec.ofChange wordsCommentSpec)

/-- ITS FALSE NEIGHBOUR: 'it returns false'. Refute it at one input. -/
def wordsCommentWrong : ChangeSpec := { name := "wordsComment", fn := fun _ => fun
  | [d1, d2] => { results := [.lit (.bool false)], args := [d1, d2] }
  | _ => none }
def WordsCommentWrongFalsely : Prop := wordsCommentRow.holds Try.pinned (OpenSpec.ofChange wordsCommentWrong)

/- THE SECOND FORM. 'bulk': how many values and letters a reading holds, each counted each time it is reached (what is shared counts as often as it is met; a slice's spare places count too). A statement '..UptoSaid' is the law's where the arguments, and the package variables that the reading takes, are together of bulk at most 1048576: NARROWER than '..Said'. Prove '..Said' where nothing that the law and all that it calls make is longer than what came in: it says more and counts as full. Else prove '..UptoSaid'. A law counts once. -/
mutual
def uptoBulk {H : Type} : DataW H → Nat
  | .lit (.string bytes) => bytes.length + 1
  | .lit _ => 1
  | .nil => 1
  | .ptr d => uptoBulk d + 1
  | .slice elems spare => uptoBulkAll elems + uptoBulkAll spare + 1
  | .agg parts => uptoBulkAll parts + 1
  | .iface _ d => uptoBulk d + 1
  | .map entries => uptoBulkEntries entries + 1
  | .held _ => 1
def uptoBulkAll {H : Type} : List (DataW H) → Nat
  | [] => 0
  | d :: r => uptoBulk d + uptoBulkAll r
def uptoBulkEntries {H : Type} : List (Lit × DataW H) → Nat
  | [] => 0
  | x :: r => uptoBulkEntry x + uptoBulkEntries r
def uptoBulkEntry {H : Type} : Lit × DataW H → Nat
  | (.string bytes, d) => bytes.length + uptoBulk d + 1
  | (_, d) => uptoBulk d + 1
 end
def uptoSmall : (H : Type) → List (DataW H) → Bool := fun _ ds => decide (uptoBulkAll ds ≤ 1048576)
def OpenSpec.upto (s : _root_.Go.ChangeSpec) : _root_.Go.OpenSpec := { _root_.Go.OpenSpec.ofChange s with cond := some uptoSmall }

/-- 'accountinglaw06.WordsCode', WHERE WHAT IT READS IS OF BULK AT MOST 1048576: true; the input reads as it did. -/
def wordsCodeUptoRow : OpenClaim := { program := "ytlcjajcjoflpkaa", sum := "4ad234627c4f87215a086436aafedc6e80676e13628d21ec16fd3c20676fb19d", func := "accounting/accountinglaw06.WordsCode", spec := "wordsCode", unfollowed := true, recurses := true, apart := false, narrowed := true }
def WordsCodeUptoSaid : Prop := wordsCodeUptoRow.holds Try.pinned (OpenSpec.upto wordsCodeSpec)

/-- 'accountinglaw06.WordsCut', WHERE WHAT IT READS IS OF BULK AT MOST 1048576: true; the input reads as it did. -/
def wordsCutUptoRow : OpenClaim := { program := "ytlcjajcjoflpkaa", sum := "4ad234627c4f87215a086436aafedc6e80676e13628d21ec16fd3c20676fb19d", func := "accounting/accountinglaw06.WordsCut", spec := "wordsCut", unfollowed := true, recurses := true, apart := false, narrowed := true }
def WordsCutUptoSaid : Prop := wordsCutUptoRow.holds Try.pinned (OpenSpec.upto wordsCutSpec)

/-- 'accountinglaw06.WordsQuote', WHERE WHAT IT READS IS OF BULK AT MOST 1048576: true; the input reads as it did. -/
def wordsQuoteUptoRow : OpenClaim := { program := "ytlcjajcjoflpkaa", sum := "4ad234627c4f87215a086436aafedc6e80676e13628d21ec16fd3c20676fb19d", func := "accounting/accountinglaw06.WordsQuote", spec := "wordsQuote", unfollowed := true, recurses := true, apart := false, narrowed := true }
def WordsQuoteUptoSaid : Prop := wordsQuoteUptoRow.holds Try.pinned (OpenSpec.upto wordsQuoteSpec)

/-- 'accountinglaw06.WordsJoin', WHERE WHAT IT READS IS OF BULK AT MOST 1048576: true; the input reads as it did. -/
def wordsJoinUptoRow : OpenClaim := { program := "ytlcjajcjoflpkaa", sum := "4ad234627c4f87215a086436aafedc6e80676e13628d21ec16fd3c20676fb19d", func := "accounting/accountinglaw06.WordsJoin", spec := "wordsJoin", unfollowed := true, recurses := true, apart := false, narrowed := true }
def WordsJoinUptoSaid : Prop := wordsJoinUptoRow.holds Try.pinned (OpenSpec.upto wordsJoinSpec)

/-- 'accountinglaw06.WordsBack', WHERE WHAT IT READS IS OF BULK AT MOST 1048576: true; the input reads as it did. -/
def wordsBackUptoRow : OpenClaim := { program := "ytlcjajcjoflpkaa", sum := "4ad234627c4f87215a086436aafedc6e80676e13628d21ec16fd3c20676fb19d", func := "accounting/accountinglaw06.WordsBack", spec := "wordsBack", unfollowed := true, recurses := true, apart := false, narrowed := true }
def WordsBackUptoSaid : Prop := wordsBackUptoRow.holds Try.pinned (OpenSpec.upto wordsBackSpec)

/-- 'accountinglaw06.WordsStable', WHERE WHAT IT READS IS OF BULK AT MOST 1048576: true; the input reads as it did. -/
def wordsStableUptoRow : OpenClaim := { program := "ytlcjajcjoflpkaa", sum := "4ad234627c4f87215a086436aafedc6e80676e13628d21ec16fd3c20676fb19d", func := "accounting/accountinglaw06.WordsStable", spec := "wordsStable", unfollowed := true, recurses := true, apart := false, narrowed := true }
def WordsStableUptoSaid : Prop := wordsStableUptoRow.holds Try.pinned (OpenSpec.upto wordsStableSpec)

/-- 'accountinglaw06.WordsComment', WHERE WHAT IT READS IS OF BULK AT MOST 1048576: true; the input reads as it did. -/
def wordsCommentUptoRow : OpenClaim := { program := "ytlcjajcjoflpkaa", sum := "4ad234627c4f87215a086436aafedc6e80676e13628d21ec16fd3c20676fb19d", func := "accounting/accountinglaw06.WordsComment", spec := "wordsComment", unfollowed := true, recurses := true, apart := false, narrowed := true }
def WordsCommentUptoSaid : Prop := wordsCommentUptoRow.holds Try.pinned (OpenSpec.upto wordsCommentSpec)

end Rows
end Go.Proofs.Ytlcjajcjoflpkaa
