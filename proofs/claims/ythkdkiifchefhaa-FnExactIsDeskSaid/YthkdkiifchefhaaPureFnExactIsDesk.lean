/- The program's IsDesk returns what the reference's returns, for every desk, and leaves its argument as it was. -/
import Derived.Test.YthkdkiifchefhaaFnExactIsDeskQ
set_option linter.unusedVariables false
set_option linter.unusedSimpArgs false
namespace Go.Proofs.Ythkdkiifchefhaa.Pure
open Go.RowKit Go.Proofs.Ythkdkiifchefhaa.PFnExactIsDesk Go.Proofs.YthkdkiifchefhaaW.PrintWords Go.Proofs.YthkdkiifchefhaaW.PrintLast Go.Proofs.YthkdkiifchefhaaW.PrintMore Go.Proofs.Ythkdkiifchefhaa.Plain Go.Proofs.Ythkdkiifchefhaa.FnExactIsDeskQ

theorem FnExactIsDesk : laws_FnExactIsDesk.Pure := by
  intro m x p n k q y _ hx _ hp _ _ _ hy _
  refine Ev.rounds ?_
  have hp1 : p ≤ 9223372036854775807 := by simp [Lit.wf, IntKind.wrap, IntKind.bits, IntKind.signed] at hp; omega
  unfold laws_FnExactIsDesk.f
  unfold maxLen at hx hy
  obtain ⟨r, hr, hc⟩ := szDesk_eq m x p n k q y (by omega) (by omega)
  rw [hr]
  refine ev_some ?_
  by_cases c : r < 0
  · exact ev_ifp c (Ev.now _)
  refine ev_ifn c ?_
  obtain ⟨h1, h2⟩ := hc.resolve_left c
  refine Ev.bind (toDesk_ev m x p n k q y h1 h2) (Ev.bind (sIsDesk_ev m x p n k q y (by omega) (by omega)) (Ev.bind (toDesk_ev m x p n k q y h1 h2) (Ev.bind (iIsDesk_ev m x p n k q y hp1) ?_)))
  refine ev_ifn (by simp) ?_
  refine Ev.bind (toDesk_ev m x p n k q y h1 h2) (Ev.bind (eqDesk_self m x p n k q y (by omega) (by omega)) ?_)
  exact ev_ifp rfl (Ev.now _)

end Go.Proofs.Ythkdkiifchefhaa.Pure
