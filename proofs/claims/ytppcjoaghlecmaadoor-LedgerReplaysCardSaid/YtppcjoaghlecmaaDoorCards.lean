/-
  DERIVED. GIVEN WITH THE SEED: THE CARDS: each row of YtppcjoaghlecmaaDoorRows.lean that lists a variable, with what it lists TIED to the program's text (the seventh form; the later family's looks); each row that meets fmt, with fmt's text TOLD by the authors' own Lean function (tested against real Go, not proved from fmt's source: count such statements apart). THE CARD IS WHAT COUNTS. Prove the row's statement (the work); the ties are given (YtppcjoaghlecmaaDoorTie.lean); close each card by the builder's one call (the guide's Derived/Test/ToyasCard.lean, 'card_holds'). Laid BY PROGRAM, IN A SANDBOX (cutbox-door.mjs). By AI agents, Wed Nov 11 2026. No macro, syntax, notation, axiom, sorry.
-/
import Derived.Test.YtppcjoaghlecmaaDoorRows
import GoSem.ClaimSeven
namespace Go.Proofs.YtppcjoaghlecmaaDoor
namespace Rows

/-- THE TIED CARD OF 'accountinglaw20.LedgerKnown'. -/
def ledgerKnownCard : Claim7 := { stood := { row := ledgerKnownRow, standIns := [], harness := (true, "670367d242bc71a9046857d31900f920163bcced9e16a21f6cff9edcab9e9c11"), looks := false }, kinds := [], alts := [], laidByText := true, laidKinds := [.data], laidTests := true, laidLooks := .later }
def LedgerKnownCardSaid : Prop := Claim7.holds Tryd.pinned (.plain (OpenSpec.ofChange ledgerKnownSpec)) ledgerKnownCard

/-- THE TIED CARD OF 'accountinglaw20.LedgerNil'. -/
def ledgerNilCard : Claim7 := { stood := { row := ledgerNilRow, standIns := [], harness := (true, "670367d242bc71a9046857d31900f920163bcced9e16a21f6cff9edcab9e9c11"), looks := false }, kinds := [], alts := [], laidByText := true, laidKinds := [.data], laidTests := true, laidLooks := .later }
def LedgerNilCardSaid : Prop := Claim7.holds Tryd.pinned (.plain (OpenSpec.ofChange ledgerNilSpec)) ledgerNilCard

/-- THE TIED CARD OF 'accountinglaw20.LedgerCells'. -/
def ledgerCellsCard : Claim7 := { stood := { row := ledgerCellsRow, standIns := [], harness := (true, "670367d242bc71a9046857d31900f920163bcced9e16a21f6cff9edcab9e9c11"), looks := false }, kinds := [], alts := [], laidByText := true, laidKinds := [.data], laidTests := true, laidLooks := .later }
def LedgerCellsCardSaid : Prop := Claim7.holds Tryd.pinned (.plain (OpenSpec.ofChange ledgerCellsSpec)) ledgerCellsCard

/-- THE TIED CARD OF 'accountinglaw20.LedgerReplays'. -/
def ledgerReplaysCard : Claim7 := { stood := { row := ledgerReplaysRow, standIns := [], harness := (true, "670367d242bc71a9046857d31900f920163bcced9e16a21f6cff9edcab9e9c11"), looks := false }, kinds := [], alts := [], laidByText := true, laidKinds := [.data], laidTests := true, laidLooks := .later }
def LedgerReplaysCardSaid : Prop := Claim7.holds Tryd.pinned (.plain (OpenSpec.ofChange ledgerReplaysSpec)) ledgerReplaysCard

/-- THE TIED CARD OF 'accountinglaw20.LedgerFinds'. -/
def ledgerFindsCard : Claim7 := { stood := { row := ledgerFindsRow, standIns := [], harness := (true, "670367d242bc71a9046857d31900f920163bcced9e16a21f6cff9edcab9e9c11"), looks := false }, kinds := [], alts := [], laidByText := true, laidKinds := [.data], laidTests := true, laidLooks := .later }
def LedgerFindsCardSaid : Prop := Claim7.holds Tryd.pinned (.plain (OpenSpec.ofChange ledgerFindsSpec)) ledgerFindsCard

/-- THE TIED CARD OF 'accountinglaw20.LedgerBalances'. -/
def ledgerBalancesCard : Claim7 := { stood := { row := ledgerBalancesRow, standIns := [], harness := (true, "670367d242bc71a9046857d31900f920163bcced9e16a21f6cff9edcab9e9c11"), looks := false }, kinds := [], alts := [], laidByText := true, laidKinds := [.data], laidTests := true, laidLooks := .later }
def LedgerBalancesCardSaid : Prop := Claim7.holds Tryd.pinned (.plain (OpenSpec.ofChange ledgerBalancesSpec)) ledgerBalancesCard

/-- THE TIED CARD OF 'accountinglaw20.LedgerDivides'. -/
def ledgerDividesCard : Claim7 := { stood := { row := ledgerDividesRow, standIns := [], harness := (true, "670367d242bc71a9046857d31900f920163bcced9e16a21f6cff9edcab9e9c11"), looks := false }, kinds := [], alts := [], laidByText := true, laidKinds := [.data], laidTests := true, laidLooks := .later }
def LedgerDividesCardSaid : Prop := Claim7.holds Tryd.pinned (.plain (OpenSpec.ofChange ledgerDividesSpec)) ledgerDividesCard

/-- THE TIED CARD OF 'accountinglaw20.LedgerEntities'. -/
def ledgerEntitiesCard : Claim7 := { stood := { row := ledgerEntitiesRow, standIns := [], harness := (true, "670367d242bc71a9046857d31900f920163bcced9e16a21f6cff9edcab9e9c11"), looks := false }, kinds := [], alts := [], laidByText := true, laidKinds := [.data], laidTests := true, laidLooks := .later }
def LedgerEntitiesCardSaid : Prop := Claim7.holds Tryd.pinned (.plain (OpenSpec.ofChange ledgerEntitiesSpec)) ledgerEntitiesCard

/-- THE TIED CARD OF 'accountinglaw50.ReconOf'. -/
def reconOfCard : Claim7 := { stood := { row := reconOfRow, standIns := [], harness := (true, "670367d242bc71a9046857d31900f920163bcced9e16a21f6cff9edcab9e9c11"), looks := false }, kinds := [], alts := [], laidByText := true, laidKinds := [.data], laidTests := true, laidLooks := .later }
def ReconOfCardSaid : Prop := Claim7.holds Tryd.pinned (.plain (OpenSpec.ofChange reconOfSpec)) reconOfCard

/-- THE TIED CARD OF 'accountinglaw50.ReconDiff'. -/
def reconDiffCard : Claim7 := { stood := { row := reconDiffRow, standIns := [], harness := (true, "670367d242bc71a9046857d31900f920163bcced9e16a21f6cff9edcab9e9c11"), looks := false }, kinds := [], alts := [], laidByText := true, laidKinds := [.data], laidTests := true, laidLooks := .later }
def ReconDiffCardSaid : Prop := Claim7.holds Tryd.pinned (.plain (OpenSpec.ofChange reconDiffSpec)) reconDiffCard

/-- THE TIED CARD OF 'accountinglaw50.ReconLines'. -/
def reconLinesCard : Claim7 := { stood := { row := reconLinesRow, standIns := [], harness := (true, "670367d242bc71a9046857d31900f920163bcced9e16a21f6cff9edcab9e9c11"), looks := false }, kinds := [], alts := [], laidByText := true, laidKinds := [.data], laidTests := true, laidLooks := .later }
def ReconLinesCardSaid : Prop := Claim7.holds Tryd.pinned (.plain (OpenSpec.ofChange reconLinesSpec)) reconLinesCard

/-- THE TIED CARD OF 'accountinglaw50.ReconRun'. -/
def reconRunCard : Claim7 := { stood := { row := reconRunRow, standIns := [], harness := (true, "670367d242bc71a9046857d31900f920163bcced9e16a21f6cff9edcab9e9c11"), looks := false }, kinds := [], alts := [], laidByText := true, laidKinds := [.data], laidTests := true, laidLooks := .later }
def ReconRunCardSaid : Prop := Claim7.holds Tryd.pinned (.plain (OpenSpec.ofChange reconRunSpec)) reconRunCard

/-- THE TIED CARD OF 'accountinglaw50.ReconPosted'. -/
def reconPostedCard : Claim7 := { stood := { row := reconPostedRow, standIns := [], harness := (true, "670367d242bc71a9046857d31900f920163bcced9e16a21f6cff9edcab9e9c11"), looks := false }, kinds := [], alts := [], laidByText := true, laidKinds := [.data], laidTests := true, laidLooks := .later }
def ReconPostedCardSaid : Prop := Claim7.holds Tryd.pinned (.plain (OpenSpec.ofChange reconPostedSpec)) reconPostedCard

/-- THE SECOND FORM's CARD OF 'accountinglaw20.LedgerKnown'. -/
def ledgerKnownUptoCard : Claim7 := { stood := { row := ledgerKnownUptoRow, standIns := [], harness := (true, "670367d242bc71a9046857d31900f920163bcced9e16a21f6cff9edcab9e9c11"), looks := false }, kinds := [], alts := [], laidByText := true, laidKinds := [.data], laidTests := true, laidLooks := .later }
def LedgerKnownUptoCardSaid : Prop := Claim7.holds Tryd.pinned (.plain (OpenSpec.upto ledgerKnownSpec)) ledgerKnownUptoCard

/-- THE SECOND FORM's CARD OF 'accountinglaw20.LedgerNil'. -/
def ledgerNilUptoCard : Claim7 := { stood := { row := ledgerNilUptoRow, standIns := [], harness := (true, "670367d242bc71a9046857d31900f920163bcced9e16a21f6cff9edcab9e9c11"), looks := false }, kinds := [], alts := [], laidByText := true, laidKinds := [.data], laidTests := true, laidLooks := .later }
def LedgerNilUptoCardSaid : Prop := Claim7.holds Tryd.pinned (.plain (OpenSpec.upto ledgerNilSpec)) ledgerNilUptoCard

/-- THE SECOND FORM's CARD OF 'accountinglaw20.LedgerCells'. -/
def ledgerCellsUptoCard : Claim7 := { stood := { row := ledgerCellsUptoRow, standIns := [], harness := (true, "670367d242bc71a9046857d31900f920163bcced9e16a21f6cff9edcab9e9c11"), looks := false }, kinds := [], alts := [], laidByText := true, laidKinds := [.data], laidTests := true, laidLooks := .later }
def LedgerCellsUptoCardSaid : Prop := Claim7.holds Tryd.pinned (.plain (OpenSpec.upto ledgerCellsSpec)) ledgerCellsUptoCard

/-- THE SECOND FORM's CARD OF 'accountinglaw20.LedgerReplays'. -/
def ledgerReplaysUptoCard : Claim7 := { stood := { row := ledgerReplaysUptoRow, standIns := [], harness := (true, "670367d242bc71a9046857d31900f920163bcced9e16a21f6cff9edcab9e9c11"), looks := false }, kinds := [], alts := [], laidByText := true, laidKinds := [.data], laidTests := true, laidLooks := .later }
def LedgerReplaysUptoCardSaid : Prop := Claim7.holds Tryd.pinned (.plain (OpenSpec.upto ledgerReplaysSpec)) ledgerReplaysUptoCard

/-- THE SECOND FORM's CARD OF 'accountinglaw20.LedgerFinds'. -/
def ledgerFindsUptoCard : Claim7 := { stood := { row := ledgerFindsUptoRow, standIns := [], harness := (true, "670367d242bc71a9046857d31900f920163bcced9e16a21f6cff9edcab9e9c11"), looks := false }, kinds := [], alts := [], laidByText := true, laidKinds := [.data], laidTests := true, laidLooks := .later }
def LedgerFindsUptoCardSaid : Prop := Claim7.holds Tryd.pinned (.plain (OpenSpec.upto ledgerFindsSpec)) ledgerFindsUptoCard

/-- THE SECOND FORM's CARD OF 'accountinglaw20.LedgerBalances'. -/
def ledgerBalancesUptoCard : Claim7 := { stood := { row := ledgerBalancesUptoRow, standIns := [], harness := (true, "670367d242bc71a9046857d31900f920163bcced9e16a21f6cff9edcab9e9c11"), looks := false }, kinds := [], alts := [], laidByText := true, laidKinds := [.data], laidTests := true, laidLooks := .later }
def LedgerBalancesUptoCardSaid : Prop := Claim7.holds Tryd.pinned (.plain (OpenSpec.upto ledgerBalancesSpec)) ledgerBalancesUptoCard

/-- THE SECOND FORM's CARD OF 'accountinglaw20.LedgerDivides'. -/
def ledgerDividesUptoCard : Claim7 := { stood := { row := ledgerDividesUptoRow, standIns := [], harness := (true, "670367d242bc71a9046857d31900f920163bcced9e16a21f6cff9edcab9e9c11"), looks := false }, kinds := [], alts := [], laidByText := true, laidKinds := [.data], laidTests := true, laidLooks := .later }
def LedgerDividesUptoCardSaid : Prop := Claim7.holds Tryd.pinned (.plain (OpenSpec.upto ledgerDividesSpec)) ledgerDividesUptoCard

/-- THE SECOND FORM's CARD OF 'accountinglaw20.LedgerEntities'. -/
def ledgerEntitiesUptoCard : Claim7 := { stood := { row := ledgerEntitiesUptoRow, standIns := [], harness := (true, "670367d242bc71a9046857d31900f920163bcced9e16a21f6cff9edcab9e9c11"), looks := false }, kinds := [], alts := [], laidByText := true, laidKinds := [.data], laidTests := true, laidLooks := .later }
def LedgerEntitiesUptoCardSaid : Prop := Claim7.holds Tryd.pinned (.plain (OpenSpec.upto ledgerEntitiesSpec)) ledgerEntitiesUptoCard

/-- THE SECOND FORM's CARD OF 'accountinglaw50.ReconOf'. -/
def reconOfUptoCard : Claim7 := { stood := { row := reconOfUptoRow, standIns := [], harness := (true, "670367d242bc71a9046857d31900f920163bcced9e16a21f6cff9edcab9e9c11"), looks := false }, kinds := [], alts := [], laidByText := true, laidKinds := [.data], laidTests := true, laidLooks := .later }
def ReconOfUptoCardSaid : Prop := Claim7.holds Tryd.pinned (.plain (OpenSpec.upto reconOfSpec)) reconOfUptoCard

/-- THE SECOND FORM's CARD OF 'accountinglaw50.ReconDiff'. -/
def reconDiffUptoCard : Claim7 := { stood := { row := reconDiffUptoRow, standIns := [], harness := (true, "670367d242bc71a9046857d31900f920163bcced9e16a21f6cff9edcab9e9c11"), looks := false }, kinds := [], alts := [], laidByText := true, laidKinds := [.data], laidTests := true, laidLooks := .later }
def ReconDiffUptoCardSaid : Prop := Claim7.holds Tryd.pinned (.plain (OpenSpec.upto reconDiffSpec)) reconDiffUptoCard

/-- THE SECOND FORM's CARD OF 'accountinglaw50.ReconLines'. -/
def reconLinesUptoCard : Claim7 := { stood := { row := reconLinesUptoRow, standIns := [], harness := (true, "670367d242bc71a9046857d31900f920163bcced9e16a21f6cff9edcab9e9c11"), looks := false }, kinds := [], alts := [], laidByText := true, laidKinds := [.data], laidTests := true, laidLooks := .later }
def ReconLinesUptoCardSaid : Prop := Claim7.holds Tryd.pinned (.plain (OpenSpec.upto reconLinesSpec)) reconLinesUptoCard

/-- THE SECOND FORM's CARD OF 'accountinglaw50.ReconRun'. -/
def reconRunUptoCard : Claim7 := { stood := { row := reconRunUptoRow, standIns := [], harness := (true, "670367d242bc71a9046857d31900f920163bcced9e16a21f6cff9edcab9e9c11"), looks := false }, kinds := [], alts := [], laidByText := true, laidKinds := [.data], laidTests := true, laidLooks := .later }
def ReconRunUptoCardSaid : Prop := Claim7.holds Tryd.pinned (.plain (OpenSpec.upto reconRunSpec)) reconRunUptoCard

/-- THE SECOND FORM's CARD OF 'accountinglaw50.ReconPosted'. -/
def reconPostedUptoCard : Claim7 := { stood := { row := reconPostedUptoRow, standIns := [], harness := (true, "670367d242bc71a9046857d31900f920163bcced9e16a21f6cff9edcab9e9c11"), looks := false }, kinds := [], alts := [], laidByText := true, laidKinds := [.data], laidTests := true, laidLooks := .later }
def ReconPostedUptoCardSaid : Prop := Claim7.holds Tryd.pinned (.plain (OpenSpec.upto reconPostedSpec)) reconPostedUptoCard
end Rows
end Go.Proofs.YtppcjoaghlecmaaDoor
