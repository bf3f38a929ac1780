-- LAID BY pp.py (a program of this repo): what the kit's print tells of this seat's functions, with contracts by hand
import Derived.Test.YthkdkiifchefhaaPFnExactMultiplyRingsx0
import Derived.Test.YthkdkiifchefhaaPFnExactMultiplyRingsx1
import Derived.Test.YthkdkiifchefhaaPFnExactMultiplyRingsx2
import Derived.Test.YthkdkiifchefhaaPFnExactMultiplyRingsx3
import Derived.Test.YthkdkiifchefhaaPFnExactMultiplyRingsx4
import Derived.Test.YthkdkiifchefhaaPFnExactMultiplyRingsx5
import Derived.Test.YthkdkiifchefhaaPFnExactMultiplyRingsx6
import Derived.Test.YthkdkiifchefhaaPFnExactMultiplyRingsx7
import Derived.Test.YthkdkiifchefhaaPFnExactMultiplyRingsx8
import Derived.Test.YthkdkiifchefhaaPFnExactMultiplyRingsx9
namespace Go.Proofs.Ythkdkiifchefhaa.PFnExactMultiplyRings
open Go.RowKit Go.Proofs.YthkdkiifchefhaaW.PrintWords Go.Proofs.YthkdkiifchefhaaW.PrintLast Go.Proofs.YthkdkiifchefhaaW.PrintMore
attribute [local go_sem] max2_int min2_int max_two min_two max_three min_three max_four min_four   -- for this text's walks alone
set_option linter.unusedVariables false
set_option linter.unusedSimpArgs false

end Go.Proofs.Ythkdkiifchefhaa.PFnExactMultiplyRings
