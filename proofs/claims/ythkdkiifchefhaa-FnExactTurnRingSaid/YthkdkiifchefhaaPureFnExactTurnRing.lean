/- The program's TurnRing returns what the reference's returns, for every argument, in new memory, and leaves its argument as it was. -/
import Derived.Test.YthkdkiifchefhaaFnExactTurnRingQ
set_option linter.unusedVariables false
set_option linter.unusedSimpArgs false
namespace Go.Proofs.Ythkdkiifchefhaa.Pure
open Go.RowKit Go.Proofs.Ythkdkiifchefhaa.PFnExactTurnRing Go.Proofs.YthkdkiifchefhaaW.PrintWords Go.Proofs.YthkdkiifchefhaaW.PrintLast Go.Proofs.YthkdkiifchefhaaW.PrintMore Go.Proofs.Ythkdkiifchefhaa.Plain Go.Proofs.Ythkdkiifchefhaa.FnExactTurnRingQ

theorem FnExactTurnRing : laws_FnExactTurnRing.Pure := by
  intro m x _ hx _
  refine Ev.rounds ?_
  unfold laws_FnExactTurnRing.f
  unfold maxLen at hx
  rw [szRing_eq m x (by omega) 1048576 (by omega) (by omega)]
  refine ev_some ?_
  by_cases c : (1048576 : Int) < (x.length : Int)
  · exact ev_ifp (by rw [if_pos c]; omega) (Ev.now _)
  refine ev_ifn (by rw [if_neg c]; omega) ?_
  have hs := sTurn_ev m x (by omega)
  have hi := iTurn_ev m x
  have hl := turnR_len m x
  generalize turnR m x = r at hs hi hl
  obtain ⟨n, l, e⟩ := r
  replace hl : l.length ≤ 1000 := hl
  have ht := toRing_ev m x (by omega)
  refine Ev.bind ht (Ev.bind hs (Ev.bind ht (Ev.bind hi (Ev.bind (eqRing_self n l (by omega)) (ev_ifp rfl (ev_ifp rfl ?_))))))
  refine Ev.bind ht (Ev.bind (eqRing_self m x (by omega)) (ev_ifp rfl ?_))
  refine Ev.bind (markRing_ev m x 1 (by omega) (by omega)) (ev_ifn (by simp only []; omega) ?_)
  refine Ev.bind (eqRing_self n l (by omega)) (ev_ifp rfl ?_)
  refine Ev.bind (markRing_ev n l 1 (by omega) (by omega)) (Ev.bind (heldRing_ev n 1 l.length (by omega) (by omega)) (ev_ifn (by omega) (ev_ifp rfl ?_)))
  refine Ev.bind ht (Ev.bind hi (Ev.bind (eqRing_self n l (by omega)) (ev_ifp rfl (ev_ifp rfl ?_))))
  refine Ev.bind (heldRing_ev n 1 l.length (by omega) (by omega)) (ev_ifn (by omega) (ev_ifp rfl (Ev.now _)))

end Go.Proofs.Ythkdkiifchefhaa.Pure
