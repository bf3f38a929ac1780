-- LAID BY pp.py (a program of this repo): what the kit's print tells of this seat's functions, with contracts by hand
import Derived.Test.YtmmokdlmjgdpgaaPFnExactNewDeskx0
import Derived.Test.YtmmokdlmjgdpgaaPFnExactNewDeskx1
import Derived.Test.YtmmokdlmjgdpgaaPFnExactNewDeskx2
namespace Go.Proofs.Ytmmokdlmjgdpgaa.PFnExactNewDesk
open Go.RowKit Go.Proofs.YtmmokdlmjgdpgaaW.PrintWords Go.Proofs.YtmmokdlmjgdpgaaW.PrintLast Go.Proofs.YtmmokdlmjgdpgaaW.PrintMore
attribute [local go_sem] max2_int min2_int max_two min_two max_three min_three max_four min_four   -- for this text's walks alone
set_option linter.unusedVariables false
set_option linter.unusedSimpArgs false

end Go.Proofs.Ytmmokdlmjgdpgaa.PFnExactNewDesk
