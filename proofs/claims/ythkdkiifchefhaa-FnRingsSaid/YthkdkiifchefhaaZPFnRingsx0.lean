-- LAID BY pp.py (a program of this repo): what the kit's print tells of this seat's functions, with contracts by hand
import Derived.Test.YthkdkiifchefhaaProg
import Derived.Test.YthkdkiifchefhaaZPlGoesV
import Derived.Test.YthkdkiifchefhaaZPlSq
import Derived.Below
import Derived.Deep.Draws
import Derived.Deep.AppendLies
import Derived.Maps.AppendAt
import Derived.OwnWalk
import Derived.Laws.BytesArg
import Derived.Laws.MakeOwn
import Derived.Laws.OwnMore
import Derived.Deep.OwnRows
import Derived.Tactics
import Derived.Lib.ConvBytes
import Derived.Laws.Slices
import Derived.WalkKit
import Derived.KernelRfl
import Derived.RowKit3
import Derived.Deep.LoopGhost
import Derived.Deep.QuietTactic
import Derived.BigQuiet
import Derived.WideLaws
import Derived.Deep.DeepCutAuto
import Derived.Deep.CutBlock
import Derived.Deep.RegionHeld3
import Derived.Laws.Rows
import Derived.Lib.AppendStr
import Derived.ArgAppend
import Derived.Laws.IdiomCopy
import Derived.OrdersHeld
import Derived.Laws.BitsLemmas
import Derived.RowKit
import Derived.Lib.SliceRun
import Derived.Test.YthkdkiifchefhaaZWWords
import Derived.Test.YthkdkiifchefhaaZWLast
import Derived.Test.YthkdkiifchefhaaZWTab
import Derived.Test.YthkdkiifchefhaaZWFour
import Derived.Test.YthkdkiifchefhaaZWQPut
import Derived.Test.YthkdkiifchefhaaZWApart
import Derived.Test.YthkdkiifchefhaaZWArr
import Derived.Test.YthkdkiifchefhaaZWZeros
import Derived.Test.YthkdkiifchefhaaZWFoot
import Derived.Test.YthkdkiifchefhaaZWKept
import Derived.Test.YthkdkiifchefhaaZWShare
import Derived.Test.YthkdkiifchefhaaZWN
import Derived.Test.YthkdkiifchefhaaZWFootNe
import Derived.Test.YthkdkiifchefhaaZWAt
import Derived.Test.YthkdkiifchefhaaZWEqStruct
import Derived.Test.YthkdkiifchefhaaZWRepsOne
import Derived.Test.YthkdkiifchefhaaZWInv
import Derived.Test.YthkdkiifchefhaaZWInvWords
import Derived.Test.YthkdkiifchefhaaZWGuard
import Derived.Test.YthkdkiifchefhaaZWNEv
import Derived.Test.YthkdkiifchefhaaZWMore
namespace Go.Proofs.Ythkdkiifchefhaa.PFnRings
open Go.RowKit Go.Proofs.YthkdkiifchefhaaW.PrintWords Go.Proofs.YthkdkiifchefhaaW.PrintLast Go.Proofs.YthkdkiifchefhaaW.PrintMore
attribute [local go_sem] max2_int min2_int max_two min_two max_three min_three max_four min_four   -- for this text's walks alone
set_option linter.unusedVariables false
set_option linter.unusedSimpArgs false



def errW : Option Int → Value
  | none => .nilIface
  | some c => .iface 0 (.int .i64 c)
theorem errW_none : errW none = .nilIface := rfl
theorem errW_some (c : Int) : errW (some c) = .iface 0 (.int .i64 c) := rfl

theorem info2 : (Try.prog.info? 2).map (fun i => (i.zero, i.size, i.bytes)) = some (some (.int .i64 0), 1, 8) := by kernel_rfl
-- the values' own types

end Go.Proofs.Ythkdkiifchefhaa.PFnRings
