-- LAID BY pp.py (a program of this repo): what the kit's print tells of this seat's functions, with contracts by hand
import Derived.Test.YthkdkiifchefhaaPFnExactTurnRingx0
import Derived.Test.YthkdkiifchefhaaPFnExactTurnRingx1
import Derived.Test.YthkdkiifchefhaaPFnExactTurnRingx2
import Derived.Test.YthkdkiifchefhaaPFnExactTurnRingx3
import Derived.Test.YthkdkiifchefhaaPFnExactTurnRingx4
import Derived.Test.YthkdkiifchefhaaPFnExactTurnRingx5
import Derived.Test.YthkdkiifchefhaaPFnExactTurnRingx6
import Derived.Test.YthkdkiifchefhaaPFnExactTurnRingx7
namespace Go.Proofs.Ythkdkiifchefhaa.PFnExactTurnRing
open Go.RowKit Go.Proofs.YthkdkiifchefhaaW.PrintWords Go.Proofs.YthkdkiifchefhaaW.PrintLast Go.Proofs.YthkdkiifchefhaaW.PrintMore
attribute [local go_sem] max2_int min2_int max_two min_two max_three min_three max_four min_four   -- for this text's walks alone
set_option linter.unusedVariables false
set_option linter.unusedSimpArgs false

end Go.Proofs.Ythkdkiifchefhaa.PFnExactTurnRing
