/- The program's TotalOfRing returns what the reference's returns, for every argument, and leaves its argument as it was. -/
import Derived.Test.YthkdkiifchefhaaFnExactTotalOfRingQ
set_option linter.unusedVariables false
set_option linter.unusedSimpArgs false
namespace Go.Proofs.Ythkdkiifchefhaa.Pure
open Go.RowKit Go.Proofs.Ythkdkiifchefhaa.PFnExactTotalOfRing Go.Proofs.YthkdkiifchefhaaW.PrintWords Go.Proofs.YthkdkiifchefhaaW.PrintLast Go.Proofs.YthkdkiifchefhaaW.PrintMore Go.Proofs.Ythkdkiifchefhaa.Plain Go.Proofs.Ythkdkiifchefhaa.FnExactTotalOfRingQ

theorem FnExactTotalOfRing : laws_FnExactTotalOfRing.Pure := by
  intro m x _ hx _
  refine Ev.rounds ?_
  unfold laws_FnExactTotalOfRing.f
  unfold maxLen at hx
  rw [szRing_eq m x (by omega) 1048576 (by omega) (by omega)]
  refine ev_some ?_
  by_cases c : (1048576 : Int) < (x.length : Int)
  · exact ev_ifp (by rw [if_pos c]; omega) (Ev.now _)
  refine ev_ifn (by rw [if_neg c]; omega) ?_
  refine Ev.bind (toRing_ev m x (by omega)) (Ev.bind (sTotal_ev m x (by omega)) (Ev.bind (toRing_ev m x (by omega)) (Ev.bind (iTotal_ev m x (by omega)) ?_)))
  refine ev_ifp rfl ?_
  refine Ev.step (fun k => by rw [laws_FnExactTotalOfRing.j0, if_neg (by simp)]) ?_
  refine Ev.bind (toRing_ev m x (by omega)) (Ev.bind (eqRing_self m x (by omega)) ?_)
  exact ev_ifp rfl (Ev.now _)

end Go.Proofs.Ythkdkiifchefhaa.Pure
