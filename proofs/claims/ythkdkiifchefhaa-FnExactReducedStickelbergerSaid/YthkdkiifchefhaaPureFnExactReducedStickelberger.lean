/- The program's ReducedStickelberger returns what the reference's returns, for every argument, in new memory. -/
import Derived.Test.YthkdkiifchefhaaFnExactReducedStickelbergerQ
set_option linter.unusedVariables false
set_option linter.unusedSimpArgs false
namespace Go.Proofs.Ythkdkiifchefhaa.Pure
open Go.RowKit Go.Proofs.Ythkdkiifchefhaa.PFnExactReducedStickelberger Go.Proofs.YthkdkiifchefhaaW.PrintWords Go.Proofs.YthkdkiifchefhaaW.PrintLast Go.Proofs.YthkdkiifchefhaaW.PrintMore Go.Proofs.Ythkdkiifchefhaa.Plain Go.Proofs.Ythkdkiifchefhaa.FnExactReducedStickelbergerQ

theorem FnExactReducedStickelberger : laws_FnExactReducedStickelberger.Pure := by
  intro n c _ hc
  have hc0 : c ≤ 9223372036854775807 := by simp [Lit.wf, IntKind.wrap, IntKind.bits, IntKind.signed] at hc; omega
  obtain ⟨m, l, e, hl, hs, hi⟩ := red_both n c hc0
  refine Ev.rounds ?_
  unfold laws_FnExactReducedStickelberger.f
  refine Ev.bind hs (Ev.bind hi (Ev.bind (eqRing_self m l (by omega)) ?_))
  refine ev_ifp rfl (ev_ifp rfl (Ev.bind (markRing_ev m l 1 (by omega) (by omega)) (Ev.bind (heldRing_ev m 1 l.length (by omega) (by omega)) ?_)))
  refine ev_ifn (by omega) (ev_ifp rfl (Ev.bind hi (Ev.bind (eqRing_self m l (by omega)) ?_)))
  refine ev_ifp rfl (ev_ifp rfl (Ev.bind (heldRing_ev m 1 l.length (by omega) (by omega)) ?_))
  exact ev_ifn (by omega) (ev_ifp rfl (Ev.now _))

end Go.Proofs.Ythkdkiifchefhaa.Pure
