/- The units of a modulus, as the program and the reference list them. -/
import Derived.Test.YtmmokdlmjgdpgaaFnExactResiduesOfGcd
set_option linter.unusedVariables false
set_option linter.unusedSimpArgs false
namespace Go.Proofs.Ytmmokdlmjgdpgaa.FnExactResiduesOfQ
open Go.RowKit Go.Proofs.Ytmmokdlmjgdpgaa.PFnExactResiduesOf Go.Proofs.Ytmmokdlmjgdpgaa.Plain Go.Proofs.YtmmokdlmjgdpgaaW.PrintWords Go.Proofs.YtmmokdlmjgdpgaaW.PrintLast Go.Proofs.YtmmokdlmjgdpgaaW.PrintMore

theorem prime_to_ev (a n : Int) (h0 : 1 ≤ a) (h1 : a ≤ n) (hn : n ≤ 9223372036854775807) : Ev (fun k => impl_isPrimeTo.f k a n) (decide ((Int.gcd a n : Int) = 1)) := by
  unfold impl_isPrimeTo.f
  rw [within_eq]
  refine ev_some ?_
  refine ev_ifp (by simp; omega) ?_
  refine Ev.bind (igcd_ev a n (by omega) (by omega) (by omega) hn) ?_
  exact Ev.now _

theorem s_units_l0 (n : Int) (hn : n ≤ 1000000) (d : Nat) : ∀ (acc : List Int) (a : Int), 1 ≤ a → (n + 1 - a).toNat = d → acc.length + d ≤ 1000000 →
    Ev (fun k => spec_l10Residues.l0 k n acc a) (acc ++ unitsFrom a n) := by
  induction d with
  | zero =>
    intro acc a ha hd hl
    refine Ev.step (fun k => by rw [spec_l10Residues.l0, if_neg (by omega)]) ?_
    unfold unitsFrom; rw [upto_nil (by omega)]; simpa using Ev.now acc
  | succ d ih =>
    intro acc a ha hd hl
    refine Ev.step (fun k => by rw [spec_l10Residues.l0, if_pos (by omega), wrap_id (x := a + 1) (by omega) (by omega)]) ?_
    refine Ev.bind (sgcd_ev a n (by omega) (by omega) (by omega) (by omega)) ?_
    have e : unitsFrom a n = if (Int.gcd a n : Int) = 1 then a :: unitsFrom (a + 1) n else unitsFrom (a + 1) n := by
      unfold unitsFrom; rw [upto_cons (by omega), List.filter_cons]; simp
    by_cases h : (Int.gcd a n : Int) = 1
    · refine ev_ifp h (ev_ifp (by omega) ?_)
      have := ih (acc ++ [a]) (a + 1) (by omega) (by omega) (by simp; omega)
      rw [e, if_pos h]; simpa using this
    · refine ev_ifn h ?_
      have := ih acc (a + 1) (by omega) (by omega) (by omega)
      rw [e, if_neg h]; exact this

theorem s_units (n : Int) (hn : n ≤ 1000000) : Ev (fun k => spec_l10Residues.f k n) (unitsL n) := by
  have := s_units_l0 n hn (n + 1 - 1).toNat [] 1 (by omega) rfl (by simp; omega)
  simpa [spec_l10Residues.f, unitsFrom_one] using this

theorem i_units_l0 (n : Int) (hn : n ≤ 1000000) (d : Nat) : ∀ (acc : List Int) (a : Int), 1 ≤ a → (n + 1 - a).toNat = d → acc.length + d ≤ 1000000 →
    Ev (fun k => impl_unitsOf.l0 k n acc a) (acc ++ unitsFrom a n) := by
  induction d with
  | zero =>
    intro acc a ha hd hl
    refine Ev.step (fun k => by rw [impl_unitsOf.l0, if_neg (by omega)]) ?_
    unfold unitsFrom; rw [upto_nil (by omega)]; simpa using Ev.now acc
  | succ d ih =>
    intro acc a ha hd hl
    refine Ev.step (fun k => by rw [impl_unitsOf.l0, if_pos (by omega), wrap_id (x := a + 1) (by omega) (by omega)]) ?_
    refine Ev.bind (prime_to_ev a n (by omega) (by omega) (by omega)) ?_
    have e : unitsFrom a n = if (Int.gcd a n : Int) = 1 then a :: unitsFrom (a + 1) n else unitsFrom (a + 1) n := by
      unfold unitsFrom; rw [upto_cons (by omega), List.filter_cons]; simp
    by_cases h : (Int.gcd a n : Int) = 1
    · refine ev_ifp (by simpa using h) (ev_ifp (by omega) ?_)
      have := ih (acc ++ [a]) (a + 1) (by omega) (by omega) (by simp; omega)
      rw [e, if_pos h]; simpa using this
    · refine ev_ifn (by simpa using h) ?_
      have := ih acc (a + 1) (by omega) (by omega) (by omega)
      rw [e, if_neg h]; exact this

theorem i_units (n : Int) (hn : n ≤ 1000000) : Ev (fun k => impl_unitsOf.f k n) (unitsL n) := by
  have := i_units_l0 n hn (n + 1 - 1).toNat [] 1 (by omega) rfl (by simp; omega)
  simpa [impl_unitsOf.f, unitsFrom_one] using this

theorem unitsL_length (n : Int) : (unitsL n).length ≤ n.toNat := by
  have := unitsFrom_length 1 n
  rw [unitsFrom_one] at this
  omega

end Go.Proofs.Ytmmokdlmjgdpgaa.FnExactResiduesOfQ
