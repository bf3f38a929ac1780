/-
  No cell of these rows narrows 'for every input' (looked for: loops, veiled, ifaces, maps, wideKeys, modest, calm, conditions, laid).
  DERIVED. THE GIVEN ROWS OF THIS SEAT. 9 by the template 'for every input the law returns true; each argument reads behind the call as it read before'; 0 by the template 'total and deterministic' (their statements: YthkdkiifchefhaaTotals.lean).
  GIVEN WITH THE SEED: the statements are not yours to turn. If you find one false, say at which input.
  Laid BY PROGRAM, IN A SANDBOX (cutbox-rows.mjs): the forced cells as the released guide's own fill.sh prints them over the translation 8eed7ce82754d8e3… (all of the seat's roots in one cut). By AI agents, Wed Nov 11 2026. No macro, syntax, notation, axiom, sorry.
-/
import Derived.Test.YthkdkiifchefhaaChecked
import GoSem.Claim
import GoSem.ClaimJoined
import GoSem.ClaimMapViews
import Derived.JoinedTies
import Derived.KernelRfl
namespace Go.Proofs.Ythkdkiifchefhaa
/- THE CELL 'sum', in the pinned program and in every row, IS THE sha256 OF THE DUMP (.gsa) THAT YthkdkiifchefhaaProg.lean LOADS. Nothing in Lean hashes anything: it is a label: what it is worth is what the hold of that sum in a sandbox is worth. -/
noncomputable def Try.pinned : Pinned := { name := "ythkdkiifchefhaa", sum := "8eed7ce82754d8e3cd2be3fd5ab84cab9dd2608fc94e73a02d24c199edf30535", checked := Try.checked }
namespace Rows
def none {H : Type} : Left H := { results := [], args := [] }

/-- 'laws.FnExactReducedStickelberger': WHATEVER THE INPUT: true; the input reads as it did. -/
def fnExactReducedStickelbergerSpec : ChangeSpec := { name := "fnExactReducedStickelberger", fn := fun _ => fun
  | [d1, d2] => { results := [.lit (.bool true)], args := [d1, d2] }
  | _ => none }
def fnExactReducedStickelbergerRow : OpenClaim := { program := "ythkdkiifchefhaa", sum := "8eed7ce82754d8e3cd2be3fd5ab84cab9dd2608fc94e73a02d24c199edf30535", func := "loop.example/g01313/laws.FnExactReducedStickelberger", spec := "fnExactReducedStickelberger", unfollowed := true, recurses := true, apart := false }
def FnExactReducedStickelbergerSaid : Prop := fnExactReducedStickelbergerRow.holds Try.pinned (OpenSpec.ofChange fnExactReducedStickelbergerSpec)

/-- ITS FALSE NEIGHBOUR: 'it returns false'. Refute it at one input. -/
def fnExactReducedStickelbergerWrong : ChangeSpec := { name := "fnExactReducedStickelberger", fn := fun _ => fun
  | [d1, d2] => { results := [.lit (.bool false)], args := [d1, d2] }
  | _ => none }
def FnExactReducedStickelbergerWrongFalsely : Prop := fnExactReducedStickelbergerRow.holds Try.pinned (OpenSpec.ofChange fnExactReducedStickelbergerWrong)

/-- 'laws.FnExactStickelbergerOf': WHATEVER THE INPUT: true; the input reads as it did. -/
def fnExactStickelbergerOfSpec : ChangeSpec := { name := "fnExactStickelbergerOf", fn := fun _ => fun
  | [d] => { results := [.lit (.bool true)], args := [d] }
  | _ => none }
def fnExactStickelbergerOfRow : OpenClaim := { program := "ythkdkiifchefhaa", sum := "8eed7ce82754d8e3cd2be3fd5ab84cab9dd2608fc94e73a02d24c199edf30535", func := "loop.example/g01313/laws.FnExactStickelbergerOf", spec := "fnExactStickelbergerOf", unfollowed := true, recurses := true, apart := false }
def FnExactStickelbergerOfSaid : Prop := fnExactStickelbergerOfRow.holds Try.pinned (OpenSpec.ofChange fnExactStickelbergerOfSpec)

/-- ITS FALSE NEIGHBOUR: 'it returns false'. Refute it at one input. -/
def fnExactStickelbergerOfWrong : ChangeSpec := { name := "fnExactStickelbergerOf", fn := fun _ => fun
  | [d] => { results := [.lit (.bool false)], args := [d] }
  | _ => none }
def FnExactStickelbergerOfWrongFalsely : Prop := fnExactStickelbergerOfRow.holds Try.pinned (OpenSpec.ofChange fnExactStickelbergerOfWrong)

/-- 'laws.FnExactTotalOfRing': WHATEVER THE INPUT: true; the input reads as it did. -/
def fnExactTotalOfRingSpec : ChangeSpec := { name := "fnExactTotalOfRing", fn := fun _ => fun
  | [d] => { results := [.lit (.bool true)], args := [d] }
  | _ => none }
def fnExactTotalOfRingRow : OpenClaim := { program := "ythkdkiifchefhaa", sum := "8eed7ce82754d8e3cd2be3fd5ab84cab9dd2608fc94e73a02d24c199edf30535", func := "loop.example/g01313/laws.FnExactTotalOfRing", spec := "fnExactTotalOfRing", unfollowed := true, recurses := true, apart := false }
def FnExactTotalOfRingSaid : Prop := fnExactTotalOfRingRow.holds Try.pinned (OpenSpec.ofChange fnExactTotalOfRingSpec)

/-- ITS FALSE NEIGHBOUR: 'it returns false'. Refute it at one input. -/
def fnExactTotalOfRingWrong : ChangeSpec := { name := "fnExactTotalOfRing", fn := fun _ => fun
  | [d] => { results := [.lit (.bool false)], args := [d] }
  | _ => none }
def FnExactTotalOfRingWrongFalsely : Prop := fnExactTotalOfRingRow.holds Try.pinned (OpenSpec.ofChange fnExactTotalOfRingWrong)

/-- 'laws.FnExactTurnRing': WHATEVER THE INPUT: true; the input reads as it did. -/
def fnExactTurnRingSpec : ChangeSpec := { name := "fnExactTurnRing", fn := fun _ => fun
  | [d] => { results := [.lit (.bool true)], args := [d] }
  | _ => none }
def fnExactTurnRingRow : OpenClaim := { program := "ythkdkiifchefhaa", sum := "8eed7ce82754d8e3cd2be3fd5ab84cab9dd2608fc94e73a02d24c199edf30535", func := "loop.example/g01313/laws.FnExactTurnRing", spec := "fnExactTurnRing", unfollowed := true, recurses := true, apart := false }
def FnExactTurnRingSaid : Prop := fnExactTurnRingRow.holds Try.pinned (OpenSpec.ofChange fnExactTurnRingSpec)

/-- ITS FALSE NEIGHBOUR: 'it returns false'. Refute it at one input. -/
def fnExactTurnRingWrong : ChangeSpec := { name := "fnExactTurnRing", fn := fun _ => fun
  | [d] => { results := [.lit (.bool false)], args := [d] }
  | _ => none }
def FnExactTurnRingWrongFalsely : Prop := fnExactTurnRingRow.holds Try.pinned (OpenSpec.ofChange fnExactTurnRingWrong)

/-- 'laws.FnExactAddRings': WHATEVER THE INPUT: true; the input reads as it did. -/
def fnExactAddRingsSpec : ChangeSpec := { name := "fnExactAddRings", fn := fun _ => fun
  | [d1, d2, d3] => { results := [.lit (.bool true)], args := [d1, d2, d3] }
  | _ => none }
def fnExactAddRingsRow : OpenClaim := { program := "ythkdkiifchefhaa", sum := "8eed7ce82754d8e3cd2be3fd5ab84cab9dd2608fc94e73a02d24c199edf30535", func := "loop.example/g01313/laws.FnExactAddRings", spec := "fnExactAddRings", unfollowed := true, recurses := true, apart := false }
def FnExactAddRingsSaid : Prop := fnExactAddRingsRow.holds Try.pinned (OpenSpec.ofChange fnExactAddRingsSpec)

/-- ITS FALSE NEIGHBOUR: 'it returns false'. Refute it at one input. -/
def fnExactAddRingsWrong : ChangeSpec := { name := "fnExactAddRings", fn := fun _ => fun
  | [d1, d2, d3] => { results := [.lit (.bool false)], args := [d1, d2, d3] }
  | _ => none }
def FnExactAddRingsWrongFalsely : Prop := fnExactAddRingsRow.holds Try.pinned (OpenSpec.ofChange fnExactAddRingsWrong)

/-- 'laws.FnExactMultiplyRings': WHATEVER THE INPUT: true; the input reads as it did. -/
def fnExactMultiplyRingsSpec : ChangeSpec := { name := "fnExactMultiplyRings", fn := fun _ => fun
  | [d1, d2] => { results := [.lit (.bool true)], args := [d1, d2] }
  | _ => none }
def fnExactMultiplyRingsRow : OpenClaim := { program := "ythkdkiifchefhaa", sum := "8eed7ce82754d8e3cd2be3fd5ab84cab9dd2608fc94e73a02d24c199edf30535", func := "loop.example/g01313/laws.FnExactMultiplyRings", spec := "fnExactMultiplyRings", unfollowed := true, recurses := true, apart := false }
def FnExactMultiplyRingsSaid : Prop := fnExactMultiplyRingsRow.holds Try.pinned (OpenSpec.ofChange fnExactMultiplyRingsSpec)

/-- ITS FALSE NEIGHBOUR: 'it returns false'. Refute it at one input. -/
def fnExactMultiplyRingsWrong : ChangeSpec := { name := "fnExactMultiplyRings", fn := fun _ => fun
  | [d1, d2] => { results := [.lit (.bool false)], args := [d1, d2] }
  | _ => none }
def FnExactMultiplyRingsWrongFalsely : Prop := fnExactMultiplyRingsRow.holds Try.pinned (OpenSpec.ofChange fnExactMultiplyRingsWrong)

/-- 'laws.FnExactIsDesk': WHATEVER THE INPUT: true; the input reads as it did. -/
def fnExactIsDeskSpec : ChangeSpec := { name := "fnExactIsDesk", fn := fun _ => fun
  | [d] => { results := [.lit (.bool true)], args := [d] }
  | _ => none }
def fnExactIsDeskRow : OpenClaim := { program := "ythkdkiifchefhaa", sum := "8eed7ce82754d8e3cd2be3fd5ab84cab9dd2608fc94e73a02d24c199edf30535", func := "loop.example/g01313/laws.FnExactIsDesk", spec := "fnExactIsDesk", unfollowed := true, recurses := true, apart := false }
def FnExactIsDeskSaid : Prop := fnExactIsDeskRow.holds Try.pinned (OpenSpec.ofChange fnExactIsDeskSpec)

/-- ITS FALSE NEIGHBOUR: 'it returns false'. Refute it at one input. -/
def fnExactIsDeskWrong : ChangeSpec := { name := "fnExactIsDesk", fn := fun _ => fun
  | [d] => { results := [.lit (.bool false)], args := [d] }
  | _ => none }
def FnExactIsDeskWrongFalsely : Prop := fnExactIsDeskRow.holds Try.pinned (OpenSpec.ofChange fnExactIsDeskWrong)

/-- 'laws.FnExactCyclotomicUnit': WHATEVER THE INPUT: true; the input reads as it did. -/
def fnExactCyclotomicUnitSpec : ChangeSpec := { name := "fnExactCyclotomicUnit", fn := fun _ => fun
  | [d1, d2] => { results := [.lit (.bool true)], args := [d1, d2] }
  | _ => none }
def fnExactCyclotomicUnitRow : OpenClaim := { program := "ythkdkiifchefhaa", sum := "8eed7ce82754d8e3cd2be3fd5ab84cab9dd2608fc94e73a02d24c199edf30535", func := "loop.example/g01313/laws.FnExactCyclotomicUnit", spec := "fnExactCyclotomicUnit", unfollowed := true, recurses := true, apart := false }
def FnExactCyclotomicUnitSaid : Prop := fnExactCyclotomicUnitRow.holds Try.pinned (OpenSpec.ofChange fnExactCyclotomicUnitSpec)

/-- ITS FALSE NEIGHBOUR: 'it returns false'. Refute it at one input. -/
def fnExactCyclotomicUnitWrong : ChangeSpec := { name := "fnExactCyclotomicUnit", fn := fun _ => fun
  | [d1, d2] => { results := [.lit (.bool false)], args := [d1, d2] }
  | _ => none }
def FnExactCyclotomicUnitWrongFalsely : Prop := fnExactCyclotomicUnitRow.holds Try.pinned (OpenSpec.ofChange fnExactCyclotomicUnitWrong)

/-- 'laws.FnRings': WHATEVER THE INPUT: true; the input reads as it did. -/
def fnRingsSpec : ChangeSpec := { name := "fnRings", fn := fun _ => fun
  | [d] => { results := [.lit (.bool true)], args := [d] }
  | _ => none }
def fnRingsRow : OpenClaim := { program := "ythkdkiifchefhaa", sum := "8eed7ce82754d8e3cd2be3fd5ab84cab9dd2608fc94e73a02d24c199edf30535", func := "loop.example/g01313/laws.FnRings", spec := "fnRings", unfollowed := true, recurses := true, apart := false }
def FnRingsSaid : Prop := fnRingsRow.holds Try.pinned (OpenSpec.ofChange fnRingsSpec)

/-- ITS FALSE NEIGHBOUR: 'it returns false'. Refute it at one input. -/
def fnRingsWrong : ChangeSpec := { name := "fnRings", fn := fun _ => fun
  | [d] => { results := [.lit (.bool false)], args := [d] }
  | _ => none }
def FnRingsWrongFalsely : Prop := fnRingsRow.holds Try.pinned (OpenSpec.ofChange fnRingsWrong)

/- THE SECOND FORM. 'bulk': how many values and letters a reading holds, each counted each time it is reached (what is shared counts as often as it is met; a slice's spare places count too). A statement '..UptoSaid' is the law's where the arguments, and the package variables that the reading takes, are together of bulk at most 1048576: NARROWER than '..Said'. Prove '..Said' where nothing that the law and all that it calls make is longer than what came in: it says more and counts as full. Else prove '..UptoSaid'. A law counts once. -/
mutual
def uptoBulk {H : Type} : DataW H → Nat
  | .lit (.string bytes) => bytes.length + 1
  | .lit _ => 1
  | .nil => 1
  | .ptr d => uptoBulk d + 1
  | .slice elems spare => uptoBulkAll elems + uptoBulkAll spare + 1
  | .agg parts => uptoBulkAll parts + 1
  | .iface _ d => uptoBulk d + 1
  | .map entries => uptoBulkEntries entries + 1
  | .held _ => 1
def uptoBulkAll {H : Type} : List (DataW H) → Nat
  | [] => 0
  | d :: r => uptoBulk d + uptoBulkAll r
def uptoBulkEntries {H : Type} : List (Lit × DataW H) → Nat
  | [] => 0
  | x :: r => uptoBulkEntry x + uptoBulkEntries r
def uptoBulkEntry {H : Type} : Lit × DataW H → Nat
  | (.string bytes, d) => bytes.length + uptoBulk d + 1
  | (_, d) => uptoBulk d + 1
 end
def uptoSmall : (H : Type) → List (DataW H) → Bool := fun _ ds => decide (uptoBulkAll ds ≤ 1048576)
def OpenSpec.upto (s : _root_.Go.ChangeSpec) : _root_.Go.OpenSpec := { _root_.Go.OpenSpec.ofChange s with cond := some uptoSmall }

/-- 'laws.FnExactReducedStickelberger', WHERE WHAT IT READS IS OF BULK AT MOST 1048576: true; the input reads as it did. -/
def fnExactReducedStickelbergerUptoRow : OpenClaim := { program := "ythkdkiifchefhaa", sum := "8eed7ce82754d8e3cd2be3fd5ab84cab9dd2608fc94e73a02d24c199edf30535", func := "loop.example/g01313/laws.FnExactReducedStickelberger", spec := "fnExactReducedStickelberger", unfollowed := true, recurses := true, apart := false, narrowed := true }
def FnExactReducedStickelbergerUptoSaid : Prop := fnExactReducedStickelbergerUptoRow.holds Try.pinned (OpenSpec.upto fnExactReducedStickelbergerSpec)

/-- 'laws.FnExactStickelbergerOf', WHERE WHAT IT READS IS OF BULK AT MOST 1048576: true; the input reads as it did. -/
def fnExactStickelbergerOfUptoRow : OpenClaim := { program := "ythkdkiifchefhaa", sum := "8eed7ce82754d8e3cd2be3fd5ab84cab9dd2608fc94e73a02d24c199edf30535", func := "loop.example/g01313/laws.FnExactStickelbergerOf", spec := "fnExactStickelbergerOf", unfollowed := true, recurses := true, apart := false, narrowed := true }
def FnExactStickelbergerOfUptoSaid : Prop := fnExactStickelbergerOfUptoRow.holds Try.pinned (OpenSpec.upto fnExactStickelbergerOfSpec)

/-- 'laws.FnExactTotalOfRing', WHERE WHAT IT READS IS OF BULK AT MOST 1048576: true; the input reads as it did. -/
def fnExactTotalOfRingUptoRow : OpenClaim := { program := "ythkdkiifchefhaa", sum := "8eed7ce82754d8e3cd2be3fd5ab84cab9dd2608fc94e73a02d24c199edf30535", func := "loop.example/g01313/laws.FnExactTotalOfRing", spec := "fnExactTotalOfRing", unfollowed := true, recurses := true, apart := false, narrowed := true }
def FnExactTotalOfRingUptoSaid : Prop := fnExactTotalOfRingUptoRow.holds Try.pinned (OpenSpec.upto fnExactTotalOfRingSpec)

/-- 'laws.FnExactTurnRing', WHERE WHAT IT READS IS OF BULK AT MOST 1048576: true; the input reads as it did. -/
def fnExactTurnRingUptoRow : OpenClaim := { program := "ythkdkiifchefhaa", sum := "8eed7ce82754d8e3cd2be3fd5ab84cab9dd2608fc94e73a02d24c199edf30535", func := "loop.example/g01313/laws.FnExactTurnRing", spec := "fnExactTurnRing", unfollowed := true, recurses := true, apart := false, narrowed := true }
def FnExactTurnRingUptoSaid : Prop := fnExactTurnRingUptoRow.holds Try.pinned (OpenSpec.upto fnExactTurnRingSpec)

/-- 'laws.FnExactAddRings', WHERE WHAT IT READS IS OF BULK AT MOST 1048576: true; the input reads as it did. -/
def fnExactAddRingsUptoRow : OpenClaim := { program := "ythkdkiifchefhaa", sum := "8eed7ce82754d8e3cd2be3fd5ab84cab9dd2608fc94e73a02d24c199edf30535", func := "loop.example/g01313/laws.FnExactAddRings", spec := "fnExactAddRings", unfollowed := true, recurses := true, apart := false, narrowed := true }
def FnExactAddRingsUptoSaid : Prop := fnExactAddRingsUptoRow.holds Try.pinned (OpenSpec.upto fnExactAddRingsSpec)

/-- 'laws.FnExactMultiplyRings', WHERE WHAT IT READS IS OF BULK AT MOST 1048576: true; the input reads as it did. -/
def fnExactMultiplyRingsUptoRow : OpenClaim := { program := "ythkdkiifchefhaa", sum := "8eed7ce82754d8e3cd2be3fd5ab84cab9dd2608fc94e73a02d24c199edf30535", func := "loop.example/g01313/laws.FnExactMultiplyRings", spec := "fnExactMultiplyRings", unfollowed := true, recurses := true, apart := false, narrowed := true }
def FnExactMultiplyRingsUptoSaid : Prop := fnExactMultiplyRingsUptoRow.holds Try.pinned (OpenSpec.upto fnExactMultiplyRingsSpec)

/-- 'laws.FnExactIsDesk', WHERE WHAT IT READS IS OF BULK AT MOST 1048576: true; the input reads as it did. -/
def fnExactIsDeskUptoRow : OpenClaim := { program := "ythkdkiifchefhaa", sum := "8eed7ce82754d8e3cd2be3fd5ab84cab9dd2608fc94e73a02d24c199edf30535", func := "loop.example/g01313/laws.FnExactIsDesk", spec := "fnExactIsDesk", unfollowed := true, recurses := true, apart := false, narrowed := true }
def FnExactIsDeskUptoSaid : Prop := fnExactIsDeskUptoRow.holds Try.pinned (OpenSpec.upto fnExactIsDeskSpec)

/-- 'laws.FnExactCyclotomicUnit', WHERE WHAT IT READS IS OF BULK AT MOST 1048576: true; the input reads as it did. -/
def fnExactCyclotomicUnitUptoRow : OpenClaim := { program := "ythkdkiifchefhaa", sum := "8eed7ce82754d8e3cd2be3fd5ab84cab9dd2608fc94e73a02d24c199edf30535", func := "loop.example/g01313/laws.FnExactCyclotomicUnit", spec := "fnExactCyclotomicUnit", unfollowed := true, recurses := true, apart := false, narrowed := true }
def FnExactCyclotomicUnitUptoSaid : Prop := fnExactCyclotomicUnitUptoRow.holds Try.pinned (OpenSpec.upto fnExactCyclotomicUnitSpec)

/-- 'laws.FnRings', WHERE WHAT IT READS IS OF BULK AT MOST 1048576: true; the input reads as it did. -/
def fnRingsUptoRow : OpenClaim := { program := "ythkdkiifchefhaa", sum := "8eed7ce82754d8e3cd2be3fd5ab84cab9dd2608fc94e73a02d24c199edf30535", func := "loop.example/g01313/laws.FnRings", spec := "fnRings", unfollowed := true, recurses := true, apart := false, narrowed := true }
def FnRingsUptoSaid : Prop := fnRingsUptoRow.holds Try.pinned (OpenSpec.upto fnRingsSpec)

end Rows
end Go.Proofs.Ythkdkiifchefhaa
