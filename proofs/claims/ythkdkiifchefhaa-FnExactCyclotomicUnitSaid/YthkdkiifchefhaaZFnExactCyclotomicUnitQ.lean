/- Facts on what the printed functions answer. -/
import Derived.Test.YthkdkiifchefhaaZPlLists
import Derived.Test.YthkdkiifchefhaaZPFnExactCyclotomicUnitx
set_option linter.unusedVariables false
set_option linter.unusedSimpArgs false
namespace Go.Proofs.Ythkdkiifchefhaa.FnExactCyclotomicUnitQ
open Go.RowKit Go.Proofs.Ythkdkiifchefhaa.PFnExactCyclotomicUnit Go.Proofs.Ythkdkiifchefhaa.Plain Go.Proofs.YthkdkiifchefhaaW.PrintWords Go.Proofs.YthkdkiifchefhaaW.PrintLast Go.Proofs.YthkdkiifchefhaaW.PrintMore

/-! 020_in -/
theorem in_eq (a b c : Int) : spec_l01In.f a b c = some (decide (b ≤ a ∧ a ≤ c)) := by
  unfold spec_l01In.f
  by_cases h : a ≥ b
  · rw [if_pos h]; simp [show b ≤ a from h]
  · rw [if_neg h]; simp [show ¬ b ≤ a from h]

/-! 021_within -/
theorem within_eq (a b c : Int) : impl_within.f a b c = some (decide (b ≤ a ∧ a ≤ c)) := by
  unfold impl_within.f
  by_cases h : b ≤ a
  · rw [if_pos h]; simp [h]
  · rw [if_neg h]; simp [h]

end Go.Proofs.Ythkdkiifchefhaa.FnExactCyclotomicUnitQ
