/- Texts of mine and of the print, joined: SayLedgerNil, PureLedgerNil. -/
import Derived.Test.YtppcjoaghlecmaaDoorLe
import Derived.Test.YtppcjoaghlecmaaDoorLd
namespace Go.Proofs.YtppcjoaghlecmaaDoor.P
open Go.RowKit Go.Proofs.YtppcjoaghlecmaaDoorW.PrintWords Go.Proofs.YtppcjoaghlecmaaDoorW.PrintLast
open Go.Proofs.YtppcjoaghlecmaaDoor.Op
def accountinglaw20_LedgerNil.Pure : Prop := ∀ (a0 : S29) (a1 : S24) (a2 : S40), fit29 a0 → fit24 a1 → fit40 a2 → accountinglaw20_LedgerNil.f a0.f0 a0.f1 a0.f2 a0.f3 a0.f4 a0.f5 a0.f6 a0.f7 a0.f8 a1.f0 a1.f1 a1.f2 a1.f3 a2.f0 a2.f1 a2.f2 a2.f3 a2.f4 = some true
end Go.Proofs.YtppcjoaghlecmaaDoor.P
namespace Go.Proofs.YtppcjoaghlecmaaDoor.Pure
open Go.RowKit Go.Proofs.YtppcjoaghlecmaaDoor.P Go.Proofs.YtppcjoaghlecmaaDoor.Op Go.Proofs.YtppcjoaghlecmaaDoorW.PrintWords Go.Proofs.YtppcjoaghlecmaaDoorW.PrintLast
theorem LedgerNil : accountinglaw20_LedgerNil.Pure := by
 intro x q key hx _ _
 unfold accountinglaw20_LedgerNil.f
 exact if_pos (fit_ok hx)
end Go.Proofs.YtppcjoaghlecmaaDoor.Pure
