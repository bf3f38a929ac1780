/- The program's IsRing returns what the reference's returns, for every argument, and leaves its argument as it was. -/
import Derived.Test.YtmmokdlmjgdpgaaFnExactIsRingQ
set_option linter.unusedVariables false
set_option linter.unusedSimpArgs false
namespace Go.Proofs.Ytmmokdlmjgdpgaa.Pure
open Go.RowKit Go.Proofs.Ytmmokdlmjgdpgaa.PFnExactIsRing Go.Proofs.YtmmokdlmjgdpgaaW.PrintWords Go.Proofs.YtmmokdlmjgdpgaaW.PrintLast Go.Proofs.YtmmokdlmjgdpgaaW.PrintMore Go.Proofs.Ytmmokdlmjgdpgaa.Plain Go.Proofs.Ytmmokdlmjgdpgaa.FnExactIsRingQ

theorem FnExactIsRing : laws_FnExactIsRing.Pure := by
  intro m x _ hx _
  refine Ev.rounds ?_
  unfold laws_FnExactIsRing.f
  unfold maxLen at hx
  rw [szRing_eq m x (by omega) 1048576 (by omega) (by omega)]
  refine ev_some ?_
  by_cases c : (1048576 : Int) < (x.length : Int)
  · exact ev_ifp (by rw [if_pos c]; omega) (Ev.now _)
  refine ev_ifn (by rw [if_neg c]; omega) ?_
  unfold spec_IsRing.f
  refine Ev.bind (toRing_ev m x (by omega)) (Ev.bind (Ev.bind (is10_ev m x (by omega)) (Ev.now _)) (Ev.bind (toRing_ev m x (by omega)) (Ev.bind (isRing_ev m x) ?_)))
  refine ev_ifn (by simp) ?_
  refine Ev.bind (toRing_ev m x (by omega)) (Ev.bind (eqRing_self m x (by omega)) ?_)
  exact ev_ifp rfl (Ev.now _)

end Go.Proofs.Ytmmokdlmjgdpgaa.Pure
