/- The program's BernoulliOf returns what the reference's returns, for every argument. -/
import Derived.Test.YtmmokdlmjgdpgaaFnExactBernoulliOfQ
set_option linter.unusedVariables false
set_option linter.unusedSimpArgs false
namespace Go.Proofs.Ytmmokdlmjgdpgaa.Pure
open Go.RowKit Go.Proofs.Ytmmokdlmjgdpgaa.PFnExactBernoulliOf Go.Proofs.YtmmokdlmjgdpgaaW.PrintWords Go.Proofs.YtmmokdlmjgdpgaaW.PrintLast Go.Proofs.YtmmokdlmjgdpgaaW.PrintMore Go.Proofs.Ytmmokdlmjgdpgaa.Plain Go.Proofs.Ytmmokdlmjgdpgaa.FnExactBernoulliOfQ

theorem small_cases : (List.range 21).all (fun i => laws_FnExactBernoulliOf.f 300 (i : Int) == some true) = true := by decide +kernel

theorem FnExactBernoulliOf : laws_FnExactBernoulliOf.Pure := by
  intro k _
  by_cases h : 0 ≤ k ∧ k ≤ 20
  · have := List.all_eq_true.1 small_cases k.toNat (by simp; omega)
    rw [show ((k.toNat : Nat) : Int) = k from by omega] at this
    exact ⟨300, by simpa using this⟩
  · refine ⟨1, ?_⟩
    unfold laws_FnExactBernoulliOf.f spec_BernoulliOf.f impl_BernoulliOf.f
    rw [in_eq, within_eq, decide_eq_false h]
    simp

end Go.Proofs.Ytmmokdlmjgdpgaa.Pure
