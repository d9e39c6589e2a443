/-
  DERIVED. GIVEN WITH THE SEED: THE CARDS: each row of YtinfcbfdeacllaaDoorRows.lean that lists a variable, with what it lists TIED to the program's text (the seventh form; the later family's looks); each row that meets fmt, with fmt's text TOLD by the authors' own Lean function (tested against real Go, not proved from fmt's source: count such statements apart). THE CARD IS WHAT COUNTS. Prove the row's statement (the work); the ties are given (YtinfcbfdeacllaaDoorTie.lean); close each card by the builder's one call (the guide's Derived/Test/ToyasCard.lean, 'card_holds'). Laid BY PROGRAM, IN A SANDBOX (cutbox-door.mjs). By AI agents, Wed Nov 11 2026. No macro, syntax, notation, axiom, sorry.
-/
import Derived.Test.YtinfcbfdeacllaaDoorRows
import GoSem.ClaimSeven
namespace Go.Proofs.YtinfcbfdeacllaaDoor
namespace Rows

/-- THE TIED CARD OF 'accountinglaw49.MatchRuns'. -/
def matchRunsCard : Claim7 := { stood := { row := matchRunsRow, standIns := [], harness := (true, "ca6b4f7426542a729b17572c076ade19706d0866e76bd8e6bd8087cb639dd56d"), looks := false }, kinds := [], alts := [], laidByText := true, laidKinds := [.data], laidTests := true, laidLooks := .later }
def MatchRunsCardSaid : Prop := Claim7.holds Tryd.pinned (.plain (OpenSpec.ofChange matchRunsSpec)) matchRunsCard

/-- THE TIED CARD OF 'accountinglaw49.MatchMany'. -/
def matchManyCard : Claim7 := { stood := { row := matchManyRow, standIns := [], harness := (true, "ca6b4f7426542a729b17572c076ade19706d0866e76bd8e6bd8087cb639dd56d"), looks := false }, kinds := [], alts := [], laidByText := true, laidKinds := [.data], laidTests := true, laidLooks := .later }
def MatchManyCardSaid : Prop := Claim7.holds Tryd.pinned (.plain (OpenSpec.ofChange matchManySpec)) matchManyCard

/-- THE TIED CARD OF 'accountinglaw49.MatchChecks'. -/
def matchChecksCard : Claim7 := { stood := { row := matchChecksRow, standIns := [], harness := (true, "ca6b4f7426542a729b17572c076ade19706d0866e76bd8e6bd8087cb639dd56d"), looks := false }, kinds := [], alts := [], laidByText := true, laidKinds := [.data], laidTests := true, laidLooks := .later }
def MatchChecksCardSaid : Prop := Claim7.holds Tryd.pinned (.plain (OpenSpec.ofChange matchChecksSpec)) matchChecksCard

/-- THE TIED CARD OF 'accountinglaw49.MatchIsRight'. -/
def matchIsRightCard : Claim7 := { stood := { row := matchIsRightRow, standIns := [], harness := (true, "ca6b4f7426542a729b17572c076ade19706d0866e76bd8e6bd8087cb639dd56d"), looks := false }, kinds := [], alts := [], laidByText := true, laidKinds := [.data], laidTests := true, laidLooks := .later }
def MatchIsRightCardSaid : Prop := Claim7.holds Tryd.pinned (.plain (OpenSpec.ofChange matchIsRightSpec)) matchIsRightCard

/-- THE TIED CARD OF 'accountinglaw49.MatchLeaves'. -/
def matchLeavesCard : Claim7 := { stood := { row := matchLeavesRow, standIns := [], harness := (true, "ca6b4f7426542a729b17572c076ade19706d0866e76bd8e6bd8087cb639dd56d"), looks := false }, kinds := [], alts := [], laidByText := true, laidKinds := [.data], laidTests := true, laidLooks := .later }
def MatchLeavesCardSaid : Prop := Claim7.holds Tryd.pinned (.plain (OpenSpec.ofChange matchLeavesSpec)) matchLeavesCard

/-- THE TIED CARD OF 'accountinglaw49.MatchParts'. -/
def matchPartsCard : Claim7 := { stood := { row := matchPartsRow, standIns := [], harness := (true, "ca6b4f7426542a729b17572c076ade19706d0866e76bd8e6bd8087cb639dd56d"), looks := false }, kinds := [], alts := [], laidByText := true, laidKinds := [.data], laidTests := true, laidLooks := .later }
def MatchPartsCardSaid : Prop := Claim7.holds Tryd.pinned (.plain (OpenSpec.ofChange matchPartsSpec)) matchPartsCard

/-- THE TIED CARD OF 'accountinglaw49.MatchMirror'. -/
def matchMirrorCard : Claim7 := { stood := { row := matchMirrorRow, standIns := [], harness := (true, "ca6b4f7426542a729b17572c076ade19706d0866e76bd8e6bd8087cb639dd56d"), looks := false }, kinds := [], alts := [], laidByText := true, laidKinds := [.data], laidTests := true, laidLooks := .later }
def MatchMirrorCardSaid : Prop := Claim7.holds Tryd.pinned (.plain (OpenSpec.ofChange matchMirrorSpec)) matchMirrorCard

/-- THE TIED CARD OF 'accountinglaw49.MatchNamed'. -/
def matchNamedCard : Claim7 := { stood := { row := matchNamedRow, standIns := [], harness := (true, "ca6b4f7426542a729b17572c076ade19706d0866e76bd8e6bd8087cb639dd56d"), looks := false }, kinds := [], alts := [], laidByText := true, laidKinds := [.data], laidTests := true, laidLooks := .later }
def MatchNamedCardSaid : Prop := Claim7.holds Tryd.pinned (.plain (OpenSpec.ofChange matchNamedSpec)) matchNamedCard

/-- THE SECOND FORM's CARD OF 'accountinglaw49.MatchRuns'. -/
def matchRunsUptoCard : Claim7 := { stood := { row := matchRunsUptoRow, standIns := [], harness := (true, "ca6b4f7426542a729b17572c076ade19706d0866e76bd8e6bd8087cb639dd56d"), looks := false }, kinds := [], alts := [], laidByText := true, laidKinds := [.data], laidTests := true, laidLooks := .later }
def MatchRunsUptoCardSaid : Prop := Claim7.holds Tryd.pinned (.plain (OpenSpec.upto matchRunsSpec)) matchRunsUptoCard

/-- THE SECOND FORM's CARD OF 'accountinglaw49.MatchMany'. -/
def matchManyUptoCard : Claim7 := { stood := { row := matchManyUptoRow, standIns := [], harness := (true, "ca6b4f7426542a729b17572c076ade19706d0866e76bd8e6bd8087cb639dd56d"), looks := false }, kinds := [], alts := [], laidByText := true, laidKinds := [.data], laidTests := true, laidLooks := .later }
def MatchManyUptoCardSaid : Prop := Claim7.holds Tryd.pinned (.plain (OpenSpec.upto matchManySpec)) matchManyUptoCard

/-- THE SECOND FORM's CARD OF 'accountinglaw49.MatchChecks'. -/
def matchChecksUptoCard : Claim7 := { stood := { row := matchChecksUptoRow, standIns := [], harness := (true, "ca6b4f7426542a729b17572c076ade19706d0866e76bd8e6bd8087cb639dd56d"), looks := false }, kinds := [], alts := [], laidByText := true, laidKinds := [.data], laidTests := true, laidLooks := .later }
def MatchChecksUptoCardSaid : Prop := Claim7.holds Tryd.pinned (.plain (OpenSpec.upto matchChecksSpec)) matchChecksUptoCard

/-- THE SECOND FORM's CARD OF 'accountinglaw49.MatchIsRight'. -/
def matchIsRightUptoCard : Claim7 := { stood := { row := matchIsRightUptoRow, standIns := [], harness := (true, "ca6b4f7426542a729b17572c076ade19706d0866e76bd8e6bd8087cb639dd56d"), looks := false }, kinds := [], alts := [], laidByText := true, laidKinds := [.data], laidTests := true, laidLooks := .later }
def MatchIsRightUptoCardSaid : Prop := Claim7.holds Tryd.pinned (.plain (OpenSpec.upto matchIsRightSpec)) matchIsRightUptoCard

/-- THE SECOND FORM's CARD OF 'accountinglaw49.MatchLeaves'. -/
def matchLeavesUptoCard : Claim7 := { stood := { row := matchLeavesUptoRow, standIns := [], harness := (true, "ca6b4f7426542a729b17572c076ade19706d0866e76bd8e6bd8087cb639dd56d"), looks := false }, kinds := [], alts := [], laidByText := true, laidKinds := [.data], laidTests := true, laidLooks := .later }
def MatchLeavesUptoCardSaid : Prop := Claim7.holds Tryd.pinned (.plain (OpenSpec.upto matchLeavesSpec)) matchLeavesUptoCard

/-- THE SECOND FORM's CARD OF 'accountinglaw49.MatchParts'. -/
def matchPartsUptoCard : Claim7 := { stood := { row := matchPartsUptoRow, standIns := [], harness := (true, "ca6b4f7426542a729b17572c076ade19706d0866e76bd8e6bd8087cb639dd56d"), looks := false }, kinds := [], alts := [], laidByText := true, laidKinds := [.data], laidTests := true, laidLooks := .later }
def MatchPartsUptoCardSaid : Prop := Claim7.holds Tryd.pinned (.plain (OpenSpec.upto matchPartsSpec)) matchPartsUptoCard

/-- THE SECOND FORM's CARD OF 'accountinglaw49.MatchMirror'. -/
def matchMirrorUptoCard : Claim7 := { stood := { row := matchMirrorUptoRow, standIns := [], harness := (true, "ca6b4f7426542a729b17572c076ade19706d0866e76bd8e6bd8087cb639dd56d"), looks := false }, kinds := [], alts := [], laidByText := true, laidKinds := [.data], laidTests := true, laidLooks := .later }
def MatchMirrorUptoCardSaid : Prop := Claim7.holds Tryd.pinned (.plain (OpenSpec.upto matchMirrorSpec)) matchMirrorUptoCard

/-- THE SECOND FORM's CARD OF 'accountinglaw49.MatchNamed'. -/
def matchNamedUptoCard : Claim7 := { stood := { row := matchNamedUptoRow, standIns := [], harness := (true, "ca6b4f7426542a729b17572c076ade19706d0866e76bd8e6bd8087cb639dd56d"), looks := false }, kinds := [], alts := [], laidByText := true, laidKinds := [.data], laidTests := true, laidLooks := .later }
def MatchNamedUptoCardSaid : Prop := Claim7.holds Tryd.pinned (.plain (OpenSpec.upto matchNamedSpec)) matchNamedUptoCard
end Rows
end Go.Proofs.YtinfcbfdeacllaaDoor
