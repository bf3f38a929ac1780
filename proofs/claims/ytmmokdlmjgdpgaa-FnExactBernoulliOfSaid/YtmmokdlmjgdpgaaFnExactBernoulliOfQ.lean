/- Facts on what the printed functions answer. -/
import Derived.Test.YtmmokdlmjgdpgaaPlLists
import Derived.Test.YtmmokdlmjgdpgaaPFnExactBernoulliOfx
set_option linter.unusedVariables false
set_option linter.unusedSimpArgs false
namespace Go.Proofs.Ytmmokdlmjgdpgaa.FnExactBernoulliOfQ
open Go.RowKit Go.Proofs.Ytmmokdlmjgdpgaa.PFnExactBernoulliOf Go.Proofs.Ytmmokdlmjgdpgaa.Plain Go.Proofs.YtmmokdlmjgdpgaaW.PrintWords Go.Proofs.YtmmokdlmjgdpgaaW.PrintLast Go.Proofs.YtmmokdlmjgdpgaaW.PrintMore

/-! 020_in -/
theorem in_eq (a b c : Int) : spec_l01In.f a b c = some (decide (b ≤ a ∧ a ≤ c)) := by
  unfold spec_l01In.f
  by_cases h : a ≥ b
  · rw [if_pos h]; simp [show b ≤ a from h]
  · rw [if_neg h]; simp [show ¬ b ≤ a from h]

/-! 021_within -/
theorem within_eq (a b c : Int) : impl_within.f a b c = some (decide (b ≤ a ∧ a ≤ c)) := by
  unfold impl_within.f
  by_cases h : b ≤ a
  · rw [if_pos h]; simp [h]
  · rw [if_neg h]; simp [h]

/-! 030_sgcd -/
theorem sgcd_l0 (n : Nat) : ∀ (a b : Int), 0 ≤ a → 0 ≤ b → b.toNat ≤ n → a ≤ 9223372036854775807 → b ≤ 9223372036854775807 →
    Ev (fun k => spec_l01Gcd.l0 k a b) ((Int.gcd a b : Nat) : Int) := by
  induction n with
  | zero =>
    intro a b ha hb hn hm hbm
    obtain rfl : b = 0 := by omega
    refine Ev.step (fun k => by rw [spec_l01Gcd.l0, if_pos rfl]) ?_
    have : mx a (wrap64 (-a)) = ((Int.gcd a 0 : Nat) : Int) := by
      rw [wrap_id (by omega) (by omega)]; unfold mx; simp; split <;> omega
    rw [this]; exact Ev.now _
  | succ n ih =>
    intro a b ha hb hn hm hbm
    by_cases h : b = 0
    · exact (ih a b ha hb (by omega) hm hbm)
    · refine Ev.step (fun k => by rw [spec_l01Gcd.l0, if_neg h]) ?_
      have h0 : 0 < b := by omega
      have hr : Int.tmod a b = a % b := Int.tmod_eq_emod_of_nonneg ha
      have h1 := Int.emod_nonneg a h
      have h2 := Int.emod_lt_of_pos a h0
      have := ih b (Int.tmod a b) hb (by rw [hr]; exact h1) (by rw [hr]; omega) hbm (by rw [hr]; omega)
      rwa [gcd_tmod a b ha h0] at this

theorem sgcd_ev (a b : Int) (ha : 0 ≤ a) (hb : 0 ≤ b) (hm : a ≤ 9223372036854775807) (hbm : b ≤ 9223372036854775807) :
    Ev (fun k => spec_l01Gcd.f k a b) ((Int.gcd a b : Nat) : Int) := sgcd_l0 b.toNat a b ha hb (Nat.le_refl _) hm hbm

/-! 031_igcd -/
theorem size_abs (a : Int) (h : -9223372036854775807 ≤ a) (h1 : a ≤ 9223372036854775807) : mx a (wrap64 (-a)) = (a.natAbs : Int) := by
  rw [wrap_id (by omega) (by omega)]; unfold mx; split <;> omega

theorem igcd_l0 (n : Nat) : ∀ (a b : Int), 0 ≤ a → 0 ≤ b → b.toNat ≤ n →
    Ev (fun k => impl_gcd.l0 k a b) ((Int.gcd a b : Nat) : Int) := by
  induction n with
  | zero =>
    intro a b ha hb hn
    obtain rfl : b = 0 := by omega
    refine Ev.step (fun k => by rw [impl_gcd.l0, if_neg (by omega)]) ?_
    have : a = ((Int.gcd a 0 : Nat) : Int) := by simp; omega
    conv => rhs; rw [← this]
    exact Ev.now _
  | succ n ih =>
    intro a b ha hb hn
    by_cases h : b = 0
    · exact (ih a b ha hb (by omega))
    · have h0 : 0 < b := by omega
      refine Ev.step (fun k => by rw [impl_gcd.l0, if_pos h0, if_neg h]) ?_
      have hr : Int.tmod a b = a % b := Int.tmod_eq_emod_of_nonneg ha
      have h1 := Int.emod_nonneg a h
      have h2 := Int.emod_lt_of_pos a h0
      have := ih b (Int.tmod a b) hb (by rw [hr]; exact h1) (by rw [hr]; omega)
      rwa [gcd_tmod a b ha h0] at this

theorem igcd_ev (a b : Int) (ha : -9223372036854775807 ≤ a) (hb : -9223372036854775807 ≤ b) (ha1 : a ≤ 9223372036854775807) (hb1 : b ≤ 9223372036854775807) :
    Ev (fun k => impl_gcd.f k a b) ((Int.gcd a b : Nat) : Int) := by
  unfold impl_gcd.f impl_size.f
  refine ev_some (ev_some ?_)
  rw [size_abs a ha ha1, size_abs b hb hb1]
  have := igcd_l0 b.natAbs (a.natAbs : Int) (b.natAbs : Int) (by omega) (by omega) (by omega)
  have e : Int.gcd (a.natAbs : Int) (b.natAbs : Int) = Int.gcd a b := by simp [Int.gcd]
  rwa [e] at this

end Go.Proofs.Ytmmokdlmjgdpgaa.FnExactBernoulliOfQ
