/- The program's NewDesk returns what the reference's returns, in new memory. -/
import Derived.Test.YtmmokdlmjgdpgaaFnExactNewDeskQ
set_option linter.unusedVariables false
set_option linter.unusedSimpArgs false
namespace Go.Proofs.Ytmmokdlmjgdpgaa.Pure
open Go.RowKit Go.Proofs.Ytmmokdlmjgdpgaa.PFnExactNewDesk Go.Proofs.YtmmokdlmjgdpgaaW.PrintWords Go.Proofs.YtmmokdlmjgdpgaaW.PrintLast Go.Proofs.YtmmokdlmjgdpgaaW.PrintMore Go.Proofs.Ytmmokdlmjgdpgaa.Plain Go.Proofs.Ytmmokdlmjgdpgaa.FnExactNewDeskQ

theorem FnExactNewDesk : laws_FnExactNewDesk.Pure := ⟨50, by decide +kernel⟩

end Go.Proofs.Ytmmokdlmjgdpgaa.Pure
