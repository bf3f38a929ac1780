/-
  No cell of these rows narrows 'for every input' (looked for: loops, veiled, ifaces, maps, wideKeys, modest, calm, conditions, laid).
  DERIVED. THE GIVEN ROWS OF THIS SEAT. 4 by the template 'for every input the law returns true; each argument reads behind the call as it read before'; 0 by the template 'total and deterministic' (their statements: YtlpooghphoohcaaTotals.lean).
  GIVEN WITH THE SEED: the statements are not yours to turn. If you find one false, say at which input.
  Laid BY PROGRAM, IN A SANDBOX (cutbox-rows.mjs): the forced cells as the released guide's own fill.sh prints them over the translation 9656e62d2208e296… (all of the seat's roots in one cut). By AI agents, Wed Nov 11 2026. No macro, syntax, notation, axiom, sorry.
-/
import Derived.Test.YtlpooghphoohcaaChecked
import GoSem.Claim
import GoSem.ClaimJoined
import GoSem.ClaimMapViews
import Derived.JoinedTies
import Derived.KernelRfl
namespace Go.Proofs.Ytlpooghphoohcaa
/- THE CELL 'sum', in the pinned program and in every row, IS THE sha256 OF THE DUMP (.gsa) THAT YtlpooghphoohcaaProg.lean LOADS. Nothing in Lean hashes anything: it is a label: what it is worth is what the hold of that sum in a sandbox is worth. -/
noncomputable def Try.pinned : Pinned := { name := "ytlpooghphoohcaa", sum := "9656e62d2208e2968266b8ec8d6a1f029e0a9ea3227aad924ec8a491e1cd1ac1", checked := Try.checked }
namespace Rows
def none {H : Type} : Left H := { results := [], args := [] }

/-- 'laws.FnTop': WHATEVER THE INPUT: true; the input reads as it did. -/
def fnTopSpec : ChangeSpec := { name := "fnTop", fn := fun _ => fun
  | [d] => { results := [.lit (.bool true)], args := [d] }
  | _ => none }
def fnTopRow : OpenClaim := { program := "ytlpooghphoohcaa", sum := "9656e62d2208e2968266b8ec8d6a1f029e0a9ea3227aad924ec8a491e1cd1ac1", func := "loop.example/g01313/laws.FnTop", spec := "fnTop", unfollowed := true, recurses := true, apart := false }
def FnTopSaid : Prop := fnTopRow.holds Try.pinned (OpenSpec.ofChange fnTopSpec)

/-- ITS FALSE NEIGHBOUR: 'it returns false'. Refute it at one input. -/
def fnTopWrong : ChangeSpec := { name := "fnTop", fn := fun _ => fun
  | [d] => { results := [.lit (.bool false)], args := [d] }
  | _ => none }
def FnTopWrongFalsely : Prop := fnTopRow.holds Try.pinned (OpenSpec.ofChange fnTopWrong)

/-- 'laws.FnPeriodSums': WHATEVER THE INPUT: true; the input reads as it did. -/
def fnPeriodSumsSpec : ChangeSpec := { name := "fnPeriodSums", fn := fun _ => fun
  | [d] => { results := [.lit (.bool true)], args := [d] }
  | _ => none }
def fnPeriodSumsRow : OpenClaim := { program := "ytlpooghphoohcaa", sum := "9656e62d2208e2968266b8ec8d6a1f029e0a9ea3227aad924ec8a491e1cd1ac1", func := "loop.example/g01313/laws.FnPeriodSums", spec := "fnPeriodSums", unfollowed := true, recurses := true, apart := false }
def FnPeriodSumsSaid : Prop := fnPeriodSumsRow.holds Try.pinned (OpenSpec.ofChange fnPeriodSumsSpec)

/-- ITS FALSE NEIGHBOUR: 'it returns false'. Refute it at one input. -/
def fnPeriodSumsWrong : ChangeSpec := { name := "fnPeriodSums", fn := fun _ => fun
  | [d] => { results := [.lit (.bool false)], args := [d] }
  | _ => none }
def FnPeriodSumsWrongFalsely : Prop := fnPeriodSumsRow.holds Try.pinned (OpenSpec.ofChange fnPeriodSumsWrong)

/-- 'laws.FnJacobiMany': WHATEVER THE INPUT: true; the input reads as it did. -/
def fnJacobiManySpec : ChangeSpec := { name := "fnJacobiMany", fn := fun _ => fun
  | [d] => { results := [.lit (.bool true)], args := [d] }
  | _ => none }
def fnJacobiManyRow : OpenClaim := { program := "ytlpooghphoohcaa", sum := "9656e62d2208e2968266b8ec8d6a1f029e0a9ea3227aad924ec8a491e1cd1ac1", func := "loop.example/g01313/laws.FnJacobiMany", spec := "fnJacobiMany", unfollowed := true, recurses := true, apart := false }
def FnJacobiManySaid : Prop := fnJacobiManyRow.holds Try.pinned (OpenSpec.ofChange fnJacobiManySpec)

/-- ITS FALSE NEIGHBOUR: 'it returns false'. Refute it at one input. -/
def fnJacobiManyWrong : ChangeSpec := { name := "fnJacobiMany", fn := fun _ => fun
  | [d] => { results := [.lit (.bool false)], args := [d] }
  | _ => none }
def FnJacobiManyWrongFalsely : Prop := fnJacobiManyRow.holds Try.pinned (OpenSpec.ofChange fnJacobiManyWrong)

/-- 'laws.FnJacobi': WHATEVER THE INPUT: true; the input reads as it did. -/
def fnJacobiSpec : ChangeSpec := { name := "fnJacobi", fn := fun _ => fun
  | [d] => { results := [.lit (.bool true)], args := [d] }
  | _ => none }
def fnJacobiRow : OpenClaim := { program := "ytlpooghphoohcaa", sum := "9656e62d2208e2968266b8ec8d6a1f029e0a9ea3227aad924ec8a491e1cd1ac1", func := "loop.example/g01313/laws.FnJacobi", spec := "fnJacobi", unfollowed := true, recurses := true, apart := false }
def FnJacobiSaid : Prop := fnJacobiRow.holds Try.pinned (OpenSpec.ofChange fnJacobiSpec)

/-- ITS FALSE NEIGHBOUR: 'it returns false'. Refute it at one input. -/
def fnJacobiWrong : ChangeSpec := { name := "fnJacobi", fn := fun _ => fun
  | [d] => { results := [.lit (.bool false)], args := [d] }
  | _ => none }
def FnJacobiWrongFalsely : Prop := fnJacobiRow.holds Try.pinned (OpenSpec.ofChange fnJacobiWrong)

/- THE SECOND FORM. 'bulk': how many values and letters a reading holds, each counted each time it is reached (what is shared counts as often as it is met; a slice's spare places count too). A statement '..UptoSaid' is the law's where the arguments, and the package variables that the reading takes, are together of bulk at most 1048576: NARROWER than '..Said'. Prove '..Said' where nothing that the law and all that it calls make is longer than what came in: it says more and counts as full. Else prove '..UptoSaid'. A law counts once. -/
mutual
def uptoBulk {H : Type} : DataW H → Nat
  | .lit (.string bytes) => bytes.length + 1
  | .lit _ => 1
  | .nil => 1
  | .ptr d => uptoBulk d + 1
  | .slice elems spare => uptoBulkAll elems + uptoBulkAll spare + 1
  | .agg parts => uptoBulkAll parts + 1
  | .iface _ d => uptoBulk d + 1
  | .map entries => uptoBulkEntries entries + 1
  | .held _ => 1
def uptoBulkAll {H : Type} : List (DataW H) → Nat
  | [] => 0
  | d :: r => uptoBulk d + uptoBulkAll r
def uptoBulkEntries {H : Type} : List (Lit × DataW H) → Nat
  | [] => 0
  | x :: r => uptoBulkEntry x + uptoBulkEntries r
def uptoBulkEntry {H : Type} : Lit × DataW H → Nat
  | (.string bytes, d) => bytes.length + uptoBulk d + 1
  | (_, d) => uptoBulk d + 1
 end
def uptoSmall : (H : Type) → List (DataW H) → Bool := fun _ ds => decide (uptoBulkAll ds ≤ 1048576)
def OpenSpec.upto (s : _root_.Go.ChangeSpec) : _root_.Go.OpenSpec := { _root_.Go.OpenSpec.ofChange s with cond := some uptoSmall }

/-- 'laws.FnTop', WHERE WHAT IT READS IS OF BULK AT MOST 1048576: true; the input reads as it did. -/
def fnTopUptoRow : OpenClaim := { program := "ytlpooghphoohcaa", sum := "9656e62d2208e2968266b8ec8d6a1f029e0a9ea3227aad924ec8a491e1cd1ac1", func := "loop.example/g01313/laws.FnTop", spec := "fnTop", unfollowed := true, recurses := true, apart := false, narrowed := true }
def FnTopUptoSaid : Prop := fnTopUptoRow.holds Try.pinned (OpenSpec.upto fnTopSpec)

/-- 'laws.FnPeriodSums', WHERE WHAT IT READS IS OF BULK AT MOST 1048576: true; the input reads as it did. -/
def fnPeriodSumsUptoRow : OpenClaim := { program := "ytlpooghphoohcaa", sum := "9656e62d2208e2968266b8ec8d6a1f029e0a9ea3227aad924ec8a491e1cd1ac1", func := "loop.example/g01313/laws.FnPeriodSums", spec := "fnPeriodSums", unfollowed := true, recurses := true, apart := false, narrowed := true }
def FnPeriodSumsUptoSaid : Prop := fnPeriodSumsUptoRow.holds Try.pinned (OpenSpec.upto fnPeriodSumsSpec)

/-- 'laws.FnJacobiMany', WHERE WHAT IT READS IS OF BULK AT MOST 1048576: true; the input reads as it did. -/
def fnJacobiManyUptoRow : OpenClaim := { program := "ytlpooghphoohcaa", sum := "9656e62d2208e2968266b8ec8d6a1f029e0a9ea3227aad924ec8a491e1cd1ac1", func := "loop.example/g01313/laws.FnJacobiMany", spec := "fnJacobiMany", unfollowed := true, recurses := true, apart := false, narrowed := true }
def FnJacobiManyUptoSaid : Prop := fnJacobiManyUptoRow.holds Try.pinned (OpenSpec.upto fnJacobiManySpec)

/-- 'laws.FnJacobi', WHERE WHAT IT READS IS OF BULK AT MOST 1048576: true; the input reads as it did. -/
def fnJacobiUptoRow : OpenClaim := { program := "ytlpooghphoohcaa", sum := "9656e62d2208e2968266b8ec8d6a1f029e0a9ea3227aad924ec8a491e1cd1ac1", func := "loop.example/g01313/laws.FnJacobi", spec := "fnJacobi", unfollowed := true, recurses := true, apart := false, narrowed := true }
def FnJacobiUptoSaid : Prop := fnJacobiUptoRow.holds Try.pinned (OpenSpec.upto fnJacobiSpec)

end Rows
end Go.Proofs.Ytlpooghphoohcaa
