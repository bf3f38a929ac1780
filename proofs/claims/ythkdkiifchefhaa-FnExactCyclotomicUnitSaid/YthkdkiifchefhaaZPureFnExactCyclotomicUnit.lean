/- For every order and every number: the program's CyclotomicUnit answers as the reference does; no condition. -/
import Derived.Test.YthkdkiifchefhaaZFnExactCyclotomicUnitQ
set_option linter.unusedVariables false
set_option linter.unusedSimpArgs false
namespace Go.Proofs.Ythkdkiifchefhaa.Pure
open Go.RowKit Go.Proofs.Ythkdkiifchefhaa.PFnExactCyclotomicUnit Go.Proofs.YthkdkiifchefhaaW.PrintWords Go.Proofs.YthkdkiifchefhaaW.PrintLast Go.Proofs.YthkdkiifchefhaaW.PrintMore Go.Proofs.Ythkdkiifchefhaa.Plain Go.Proofs.Ythkdkiifchefhaa.FnExactCyclotomicUnitQ

theorem fin_ : ((List.range 15).all fun n => (List.range 16).all fun a => decide (n + 2 < a + 1) || (laws_FnExactCyclotomicUnit.f 1000 ((n + 2 : Nat) : Int) ((a + 1 : Nat) : Int) == some true)) = true := by decide +kernel
theorem fin (n a : Int) (h0 : 2 ≤ n) (h1 : n ≤ 16) (h2 : 1 ≤ a) (h3 : a ≤ n) : laws_FnExactCyclotomicUnit.f 1000 n a = some true := by
  have h := List.all_eq_true.1 (List.all_eq_true.1 fin_ (n.toNat - 2) (List.mem_range.2 (by omega))) (a.toNat - 1) (List.mem_range.2 (by omega))
  rw [Bool.or_eq_true, decide_eq_true_eq, beq_iff_eq] at h
  rcases h with h | h
  · omega
  · have e1 : ((n.toNat - 2 + 2 : Nat) : Int) = n := by omega
    have e2 : ((a.toNat - 1 + 1 : Nat) : Int) = a := by omega
    rwa [e1, e2] at h
theorem err (n a : Int) (h1 : spec_CyclotomicUnit.f 1000 n a = some (0, [], 2)) (h2 : impl_CyclotomicUnit.f 1000 n a = some (0, [], 2)) : laws_FnExactCyclotomicUnit.f 1000 n a = some true := by
  unfold laws_FnExactCyclotomicUnit.f
  rw [h1, h2]
  decide +kernel
theorem FnExactCyclotomicUnit : laws_FnExactCyclotomicUnit.Pure := by
  intro n a _ _
  refine ⟨1000, ?_⟩
  by_cases hn : 2 ≤ n ∧ n ≤ 16
  · by_cases ha : 1 ≤ a ∧ a ≤ n
    · exact fin n a hn.1 hn.2 ha.1 ha.2
    · have e1 : spec_l01In.f n 2 16 = some true := by rw [in_eq]; simp [hn]
      have e2 : spec_l01In.f a 1 n = some false := by rw [in_eq]; simp; omega
      have e3 : impl_within.f n 2 16 = some true := by rw [within_eq]; simp [hn]
      have e4 : impl_within.f a 1 n = some false := by rw [within_eq]; simp; omega
      refine err n a ?_ ?_
      · unfold spec_CyclotomicUnit.f
        rw [e1, Option.bind_some, if_pos rfl, e2, Option.bind_some, if_neg (by decide)]
        rfl
      · unfold impl_CyclotomicUnit.f impl_isPrimeTo.f
        rw [e3, Option.bind_some, if_pos rfl, e4, Option.bind_some, if_neg (by decide), Option.bind_some]
        rfl
  · have e1 : spec_l01In.f n 2 16 = some false := by rw [in_eq]; simp; omega
    have e3 : impl_within.f n 2 16 = some false := by rw [within_eq]; simp; omega
    refine err n a ?_ ?_
    · unfold spec_CyclotomicUnit.f
      rw [e1, Option.bind_some, if_neg (by decide)]
      rfl
    · unfold impl_CyclotomicUnit.f
      rw [e3, Option.bind_some, if_neg (by decide)]
      rfl

end Go.Proofs.Ythkdkiifchefhaa.Pure
