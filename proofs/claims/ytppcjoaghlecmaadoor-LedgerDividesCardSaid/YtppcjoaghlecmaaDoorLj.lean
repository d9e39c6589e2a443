/- Texts of mine and of the print, joined: SayLedgerDivides, PureLedgerDivides. -/
import Derived.Test.YtppcjoaghlecmaaDoorLg
import Derived.Test.YtppcjoaghlecmaaDoorLd
namespace Go.Proofs.YtppcjoaghlecmaaDoor.P
open Go.RowKit Go.Proofs.YtppcjoaghlecmaaDoorW.PrintWords Go.Proofs.YtppcjoaghlecmaaDoorW.PrintLast
open Go.Proofs.YtppcjoaghlecmaaDoor.Op
def accountinglaw20_LedgerDivides.Pure : Prop := ∀ (l0 : List (S29)) (a1 : S24) (a2 : Int), (FitL fit29) l0 → fit24 a1 → (fun n => (Lit.int .i64 n).wf = true) a2 → accountinglaw20_LedgerDivides.f l0 a1.f0 a1.f1 a1.f2 a1.f3 a2 = some true
end Go.Proofs.YtppcjoaghlecmaaDoor.P
namespace Go.Proofs.YtppcjoaghlecmaaDoor.Pure
open Go.RowKit Go.Proofs.YtppcjoaghlecmaaDoor.P Go.Proofs.YtppcjoaghlecmaaDoor.Op Go.Proofs.YtppcjoaghlecmaaDoorW.PrintWords Go.Proofs.YtppcjoaghlecmaaDoorW.PrintLast
theorem LedgerDivides : accountinglaw20_LedgerDivides.Pure := by
 intro l q d hl hq hd
 unfold accountinglaw20_LedgerDivides.f
 exact if_pos ⟨fun x hx => fit_ok (hl.2 x hx), wf_range hq.2.2.1, wf_range hd⟩
end Go.Proofs.YtppcjoaghlecmaaDoor.Pure
