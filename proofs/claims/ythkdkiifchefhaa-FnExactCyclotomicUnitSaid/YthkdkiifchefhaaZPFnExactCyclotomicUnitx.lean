-- LAID BY pp.py (a program of this repo): what the kit's print tells of this seat's functions, with contracts by hand
import Derived.Test.YthkdkiifchefhaaZPFnExactCyclotomicUnitx0
import Derived.Test.YthkdkiifchefhaaZPFnExactCyclotomicUnitx1
import Derived.Test.YthkdkiifchefhaaZPFnExactCyclotomicUnitx2
import Derived.Test.YthkdkiifchefhaaZPFnExactCyclotomicUnitx3
import Derived.Test.YthkdkiifchefhaaZPFnExactCyclotomicUnitx4
import Derived.Test.YthkdkiifchefhaaZPFnExactCyclotomicUnitx5
namespace Go.Proofs.Ythkdkiifchefhaa.PFnExactCyclotomicUnit
open Go.RowKit Go.Proofs.YthkdkiifchefhaaW.PrintWords Go.Proofs.YthkdkiifchefhaaW.PrintLast Go.Proofs.YthkdkiifchefhaaW.PrintMore
attribute [local go_sem] max2_int min2_int max_two min_two max_three min_three max_four min_four   -- for this text's walks alone
set_option linter.unusedVariables false
set_option linter.unusedSimpArgs false

end Go.Proofs.Ythkdkiifchefhaa.PFnExactCyclotomicUnit
