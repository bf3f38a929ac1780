/- The program's ResiduesOf returns what the reference's returns, for every argument, in new memory. -/
import Derived.Test.YtmmokdlmjgdpgaaFnExactResiduesOfUnits
import Derived.Test.YtmmokdlmjgdpgaaFnExactResiduesOfEq
set_option linter.unusedVariables false
set_option linter.unusedSimpArgs false
namespace Go.Proofs.Ytmmokdlmjgdpgaa.Pure
open Go.RowKit Go.Proofs.Ytmmokdlmjgdpgaa.PFnExactResiduesOf Go.Proofs.YtmmokdlmjgdpgaaW.PrintWords Go.Proofs.YtmmokdlmjgdpgaaW.PrintLast Go.Proofs.YtmmokdlmjgdpgaaW.PrintMore Go.Proofs.Ytmmokdlmjgdpgaa.Plain Go.Proofs.Ytmmokdlmjgdpgaa.FnExactResiduesOfQ

theorem both (n : Int) : ∃ (l : List Int) (c : Int), l.length ≤ 1000 ∧ Ev (fun k => spec_ResiduesOf.f k n) (l, c) ∧ Ev (fun k => impl_ResiduesOf.f k n) (l, c) := by
  unfold spec_ResiduesOf.f impl_ResiduesOf.f impl_isModulus.f
  simp only [in_eq, within_eq, Option.bind_some]
  by_cases h : 2 ≤ n ∧ n ≤ 40
  · refine ⟨unitsL n, 0, Nat.le_trans (unitsL_length n) (by omega), ev_ifp (by simpa using h) ?_, ev_ifp (by simpa using h) ?_⟩
    · exact Ev.bind (s_units n (by omega)) (Ev.now _)
    · exact Ev.bind (i_units n (by omega)) (Ev.now _)
  · exact ⟨[], 2, by simp, ev_ifn (by simpa using h) (Ev.now _), ev_ifn (by simpa using h) (Ev.now _)⟩

theorem FnExactResiduesOf : laws_FnExactResiduesOf.Pure := by
  intro n _
  obtain ⟨l, c, hl, hs, hi⟩ := both n
  refine Ev.rounds ?_
  unfold laws_FnExactResiduesOf.f
  refine Ev.bind hs (Ev.bind hi (Ev.bind (eq_self l (by omega)) ?_))
  refine ev_ifp rfl ?_
  refine Ev.step (fun k => by rw [laws_FnExactResiduesOf.j0, if_neg (by simp)]) ?_
  refine Ev.bind (mark_ev l 1 (by omega) (by omega)) ?_
  refine Ev.bind (held_ev 1 l.length (by omega) (by omega)) ?_
  refine ev_ifn (by omega) (ev_ifp rfl ?_)
  refine Ev.bind hi (Ev.bind (eq_self l (by omega)) ?_)
  refine ev_ifp rfl ?_
  refine Ev.step (fun k => by rw [laws_FnExactResiduesOf.j1, if_neg (by simp)]) ?_
  refine Ev.bind (held_ev 1 l.length (by omega) (by omega)) ?_
  exact ev_ifn (by omega) (ev_ifp rfl (Ev.now _))

end Go.Proofs.Ytmmokdlmjgdpgaa.Pure
