/-
  No cell of these rows narrows 'for every input' (looked for: loops, veiled, ifaces, maps, wideKeys, modest, calm, conditions, laid).
  DERIVED. THE GIVEN ROWS OF THIS SEAT. 4 by the template 'for every input the law returns true; each argument reads behind the call as it read before'; 0 by the template 'total and deterministic' (their statements: YtmmokdlmjgdpgaaTotals.lean).
  GIVEN WITH THE SEED: the statements are not yours to turn. If you find one false, say at which input.
  Laid BY PROGRAM, IN A SANDBOX (cutbox-rows.mjs): the forced cells as the released guide's own fill.sh prints them over the translation 12a1ecd44a571f1a… (all of the seat's roots in one cut). By AI agents, Wed Nov 11 2026. No macro, syntax, notation, axiom, sorry.
-/
import Derived.Test.YtmmokdlmjgdpgaaChecked
import GoSem.Claim
import GoSem.ClaimJoined
import GoSem.ClaimMapViews
import Derived.JoinedTies
import Derived.KernelRfl
namespace Go.Proofs.Ytmmokdlmjgdpgaa
/- THE CELL 'sum', in the pinned program and in every row, IS THE sha256 OF THE DUMP (.gsa) THAT YtmmokdlmjgdpgaaProg.lean LOADS. Nothing in Lean hashes anything: it is a label: what it is worth is what the hold of that sum in a sandbox is worth. -/
noncomputable def Try.pinned : Pinned := { name := "ytmmokdlmjgdpgaa", sum := "12a1ecd44a571f1ace8e32d238407615a7d1b417efe54447161c90630b922f5a", checked := Try.checked }
namespace Rows
def none {H : Type} : Left H := { results := [], args := [] }

/-- 'laws.FnExactResiduesOf': WHATEVER THE INPUT: true; the input reads as it did. -/
def fnExactResiduesOfSpec : ChangeSpec := { name := "fnExactResiduesOf", fn := fun _ => fun
  | [d] => { results := [.lit (.bool true)], args := [d] }
  | _ => none }
def fnExactResiduesOfRow : OpenClaim := { program := "ytmmokdlmjgdpgaa", sum := "12a1ecd44a571f1ace8e32d238407615a7d1b417efe54447161c90630b922f5a", func := "loop.example/g01313/laws.FnExactResiduesOf", spec := "fnExactResiduesOf", apart := false }
def FnExactResiduesOfSaid : Prop := fnExactResiduesOfRow.holds Try.pinned (OpenSpec.ofChange fnExactResiduesOfSpec)

/-- ITS FALSE NEIGHBOUR: 'it returns false'. Refute it at one input. -/
def fnExactResiduesOfWrong : ChangeSpec := { name := "fnExactResiduesOf", fn := fun _ => fun
  | [d] => { results := [.lit (.bool false)], args := [d] }
  | _ => none }
def FnExactResiduesOfWrongFalsely : Prop := fnExactResiduesOfRow.holds Try.pinned (OpenSpec.ofChange fnExactResiduesOfWrong)

/-- 'laws.FnExactBernoulliOf': WHATEVER THE INPUT: true; the input reads as it did. -/
def fnExactBernoulliOfSpec : ChangeSpec := { name := "fnExactBernoulliOf", fn := fun _ => fun
  | [d] => { results := [.lit (.bool true)], args := [d] }
  | _ => none }
def fnExactBernoulliOfRow : OpenClaim := { program := "ytmmokdlmjgdpgaa", sum := "12a1ecd44a571f1ace8e32d238407615a7d1b417efe54447161c90630b922f5a", func := "loop.example/g01313/laws.FnExactBernoulliOf", spec := "fnExactBernoulliOf", apart := false }
def FnExactBernoulliOfSaid : Prop := fnExactBernoulliOfRow.holds Try.pinned (OpenSpec.ofChange fnExactBernoulliOfSpec)

/-- ITS FALSE NEIGHBOUR: 'it returns false'. Refute it at one input. -/
def fnExactBernoulliOfWrong : ChangeSpec := { name := "fnExactBernoulliOf", fn := fun _ => fun
  | [d] => { results := [.lit (.bool false)], args := [d] }
  | _ => none }
def FnExactBernoulliOfWrongFalsely : Prop := fnExactBernoulliOfRow.holds Try.pinned (OpenSpec.ofChange fnExactBernoulliOfWrong)

/-- 'laws.FnExactIsRing': WHATEVER THE INPUT: true; the input reads as it did. -/
def fnExactIsRingSpec : ChangeSpec := { name := "fnExactIsRing", fn := fun _ => fun
  | [d] => { results := [.lit (.bool true)], args := [d] }
  | _ => none }
def fnExactIsRingRow : OpenClaim := { program := "ytmmokdlmjgdpgaa", sum := "12a1ecd44a571f1ace8e32d238407615a7d1b417efe54447161c90630b922f5a", func := "loop.example/g01313/laws.FnExactIsRing", spec := "fnExactIsRing", unfollowed := true, recurses := true, apart := false }
def FnExactIsRingSaid : Prop := fnExactIsRingRow.holds Try.pinned (OpenSpec.ofChange fnExactIsRingSpec)

/-- ITS FALSE NEIGHBOUR: 'it returns false'. Refute it at one input. -/
def fnExactIsRingWrong : ChangeSpec := { name := "fnExactIsRing", fn := fun _ => fun
  | [d] => { results := [.lit (.bool false)], args := [d] }
  | _ => none }
def FnExactIsRingWrongFalsely : Prop := fnExactIsRingRow.holds Try.pinned (OpenSpec.ofChange fnExactIsRingWrong)

/-- 'laws.FnExactNewDesk': WHATEVER THE INPUT: true; the input reads as it did. -/
def fnExactNewDeskSpec : ChangeSpec := { name := "fnExactNewDesk", fn := fun _ => fun
  | [] => { results := [.lit (.bool true)], args := [] }
  | _ => none }
def fnExactNewDeskRow : OpenClaim := { program := "ytmmokdlmjgdpgaa", sum := "12a1ecd44a571f1ace8e32d238407615a7d1b417efe54447161c90630b922f5a", func := "loop.example/g01313/laws.FnExactNewDesk", spec := "fnExactNewDesk", apart := false }
def FnExactNewDeskSaid : Prop := fnExactNewDeskRow.holds Try.pinned (OpenSpec.ofChange fnExactNewDeskSpec)

/-- ITS FALSE NEIGHBOUR: 'it returns false'. Refute it at one input. -/
def fnExactNewDeskWrong : ChangeSpec := { name := "fnExactNewDesk", fn := fun _ => fun
  | [] => { results := [.lit (.bool false)], args := [] }
  | _ => none }
def FnExactNewDeskWrongFalsely : Prop := fnExactNewDeskRow.holds Try.pinned (OpenSpec.ofChange fnExactNewDeskWrong)

/- THE SECOND FORM. 'bulk': how many values and letters a reading holds, each counted each time it is reached (what is shared counts as often as it is met; a slice's spare places count too). A statement '..UptoSaid' is the law's where the arguments, and the package variables that the reading takes, are together of bulk at most 1048576: NARROWER than '..Said'. Prove '..Said' where nothing that the law and all that it calls make is longer than what came in: it says more and counts as full. Else prove '..UptoSaid'. A law counts once. -/
mutual
def uptoBulk {H : Type} : DataW H → Nat
  | .lit (.string bytes) => bytes.length + 1
  | .lit _ => 1
  | .nil => 1
  | .ptr d => uptoBulk d + 1
  | .slice elems spare => uptoBulkAll elems + uptoBulkAll spare + 1
  | .agg parts => uptoBulkAll parts + 1
  | .iface _ d => uptoBulk d + 1
  | .map entries => uptoBulkEntries entries + 1
  | .held _ => 1
def uptoBulkAll {H : Type} : List (DataW H) → Nat
  | [] => 0
  | d :: r => uptoBulk d + uptoBulkAll r
def uptoBulkEntries {H : Type} : List (Lit × DataW H) → Nat
  | [] => 0
  | x :: r => uptoBulkEntry x + uptoBulkEntries r
def uptoBulkEntry {H : Type} : Lit × DataW H → Nat
  | (.string bytes, d) => bytes.length + uptoBulk d + 1
  | (_, d) => uptoBulk d + 1
 end
def uptoSmall : (H : Type) → List (DataW H) → Bool := fun _ ds => decide (uptoBulkAll ds ≤ 1048576)
def OpenSpec.upto (s : _root_.Go.ChangeSpec) : _root_.Go.OpenSpec := { _root_.Go.OpenSpec.ofChange s with cond := some uptoSmall }

/-- 'laws.FnExactResiduesOf', WHERE WHAT IT READS IS OF BULK AT MOST 1048576: true; the input reads as it did. -/
def fnExactResiduesOfUptoRow : OpenClaim := { program := "ytmmokdlmjgdpgaa", sum := "12a1ecd44a571f1ace8e32d238407615a7d1b417efe54447161c90630b922f5a", func := "loop.example/g01313/laws.FnExactResiduesOf", spec := "fnExactResiduesOf", apart := false, narrowed := true }
def FnExactResiduesOfUptoSaid : Prop := fnExactResiduesOfUptoRow.holds Try.pinned (OpenSpec.upto fnExactResiduesOfSpec)

/-- 'laws.FnExactBernoulliOf', WHERE WHAT IT READS IS OF BULK AT MOST 1048576: true; the input reads as it did. -/
def fnExactBernoulliOfUptoRow : OpenClaim := { program := "ytmmokdlmjgdpgaa", sum := "12a1ecd44a571f1ace8e32d238407615a7d1b417efe54447161c90630b922f5a", func := "loop.example/g01313/laws.FnExactBernoulliOf", spec := "fnExactBernoulliOf", apart := false, narrowed := true }
def FnExactBernoulliOfUptoSaid : Prop := fnExactBernoulliOfUptoRow.holds Try.pinned (OpenSpec.upto fnExactBernoulliOfSpec)

/-- 'laws.FnExactIsRing', WHERE WHAT IT READS IS OF BULK AT MOST 1048576: true; the input reads as it did. -/
def fnExactIsRingUptoRow : OpenClaim := { program := "ytmmokdlmjgdpgaa", sum := "12a1ecd44a571f1ace8e32d238407615a7d1b417efe54447161c90630b922f5a", func := "loop.example/g01313/laws.FnExactIsRing", spec := "fnExactIsRing", unfollowed := true, recurses := true, apart := false, narrowed := true }
def FnExactIsRingUptoSaid : Prop := fnExactIsRingUptoRow.holds Try.pinned (OpenSpec.upto fnExactIsRingSpec)

/-- 'laws.FnExactNewDesk', WHERE WHAT IT READS IS OF BULK AT MOST 1048576: true; the input reads as it did. -/
def fnExactNewDeskUptoRow : OpenClaim := { program := "ytmmokdlmjgdpgaa", sum := "12a1ecd44a571f1ace8e32d238407615a7d1b417efe54447161c90630b922f5a", func := "loop.example/g01313/laws.FnExactNewDesk", spec := "fnExactNewDesk", apart := false, narrowed := true }
def FnExactNewDeskUptoSaid : Prop := fnExactNewDeskUptoRow.holds Try.pinned (OpenSpec.upto fnExactNewDeskSpec)

end Rows
end Go.Proofs.Ytmmokdlmjgdpgaa
