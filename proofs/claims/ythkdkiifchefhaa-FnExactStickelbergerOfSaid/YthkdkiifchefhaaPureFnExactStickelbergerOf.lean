/- The program's StickelbergerOf returns what the reference's returns, for every argument, in new memory. -/
import Derived.Test.YthkdkiifchefhaaFnExactStickelbergerOfQ
set_option linter.unusedVariables false
set_option linter.unusedSimpArgs false
namespace Go.Proofs.Ythkdkiifchefhaa.Pure
open Go.RowKit Go.Proofs.Ythkdkiifchefhaa.PFnExactStickelbergerOf Go.Proofs.YthkdkiifchefhaaW.PrintWords Go.Proofs.YthkdkiifchefhaaW.PrintLast Go.Proofs.YthkdkiifchefhaaW.PrintMore Go.Proofs.Ythkdkiifchefhaa.Plain Go.Proofs.Ythkdkiifchefhaa.FnExactStickelbergerOfQ

theorem FnExactStickelbergerOf : laws_FnExactStickelbergerOf.Pure := by
  intro n _
  obtain ⟨m, l, c, hl, hs, hi⟩ := stick_both n
  refine Ev.rounds ?_
  unfold laws_FnExactStickelbergerOf.f
  refine Ev.bind hs (Ev.bind hi (Ev.bind (eqRing_self m l (by omega)) ?_))
  refine ev_ifp rfl (ev_ifp rfl (Ev.bind (markRing_ev m l 1 (by omega) (by omega)) (Ev.bind (heldRing_ev m 1 l.length (by omega) (by omega)) ?_)))
  refine ev_ifn (by omega) (ev_ifp rfl (Ev.bind hi (Ev.bind (eqRing_self m l (by omega)) ?_)))
  refine ev_ifp rfl (ev_ifp rfl (Ev.bind (heldRing_ev m 1 l.length (by omega) (by omega)) ?_))
  exact ev_ifn (by omega) (ev_ifp rfl (Ev.now _))

end Go.Proofs.Ythkdkiifchefhaa.Pure
