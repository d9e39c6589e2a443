/- Texts of mine and of the print, joined: SayLedgerBalances, PureLedgerBalances. -/
import Derived.Test.YtppcjoaghlecmaaDoorLf
import Derived.Test.YtppcjoaghlecmaaDoorLd
namespace Go.Proofs.YtppcjoaghlecmaaDoor.P
open Go.RowKit Go.Proofs.YtppcjoaghlecmaaDoorW.PrintWords Go.Proofs.YtppcjoaghlecmaaDoorW.PrintLast
open Go.Proofs.YtppcjoaghlecmaaDoor.Op
def accountinglaw20_LedgerBalances.Pure : Prop := ∀ (l0 : List (S29)) (a1 : S24), (FitL fit29) l0 → fit24 a1 → accountinglaw20_LedgerBalances.f l0 a1.f0 a1.f1 a1.f2 a1.f3 = some true
end Go.Proofs.YtppcjoaghlecmaaDoor.P
namespace Go.Proofs.YtppcjoaghlecmaaDoor.Pure
open Go.RowKit Go.Proofs.YtppcjoaghlecmaaDoor.P Go.Proofs.YtppcjoaghlecmaaDoor.Op Go.Proofs.YtppcjoaghlecmaaDoorW.PrintWords Go.Proofs.YtppcjoaghlecmaaDoorW.PrintLast
theorem LedgerBalances : accountinglaw20_LedgerBalances.Pure := by
 intro l q hl _
 unfold accountinglaw20_LedgerBalances.f
 exact if_pos (fun x hx => fit_ok (hl.2 x hx))
end Go.Proofs.YtppcjoaghlecmaaDoor.Pure
