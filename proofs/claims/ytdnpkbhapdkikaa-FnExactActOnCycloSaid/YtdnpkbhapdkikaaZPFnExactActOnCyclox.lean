-- LAID BY pp.py (a program of this repo): what the kit's print tells of this seat's functions, with contracts by hand
import Derived.Test.YtdnpkbhapdkikaaZPFnExactActOnCyclox0
import Derived.Test.YtdnpkbhapdkikaaZPFnExactActOnCyclox1
import Derived.Test.YtdnpkbhapdkikaaZPFnExactActOnCyclox2
import Derived.Test.YtdnpkbhapdkikaaZPFnExactActOnCyclox3
import Derived.Test.YtdnpkbhapdkikaaZPFnExactActOnCyclox4
import Derived.Test.YtdnpkbhapdkikaaZPFnExactActOnCyclox5
import Derived.Test.YtdnpkbhapdkikaaZPFnExactActOnCyclox6
import Derived.Test.YtdnpkbhapdkikaaZPFnExactActOnCyclox7
import Derived.Test.YtdnpkbhapdkikaaZPFnExactActOnCyclox8
import Derived.Test.YtdnpkbhapdkikaaZPFnExactActOnCyclox9
import Derived.Test.YtdnpkbhapdkikaaZPFnExactActOnCyclox10
import Derived.Test.YtdnpkbhapdkikaaZPFnExactActOnCyclox11
import Derived.Test.YtdnpkbhapdkikaaZPFnExactActOnCyclox12
import Derived.Test.YtdnpkbhapdkikaaZPFnExactActOnCyclox13
namespace Go.Proofs.Ytdnpkbhapdkikaa.PFnExactActOnCyclo
open Go.RowKit Go.Proofs.YtdnpkbhapdkikaaW.PrintWords Go.Proofs.YtdnpkbhapdkikaaW.PrintLast Go.Proofs.YtdnpkbhapdkikaaW.PrintMore
attribute [local go_sem] max2_int min2_int max_two min_two max_three min_three max_four min_four   -- for this text's walks alone
set_option linter.unusedVariables false
set_option linter.unusedSimpArgs false

end Go.Proofs.Ytdnpkbhapdkikaa.PFnExactActOnCyclo
