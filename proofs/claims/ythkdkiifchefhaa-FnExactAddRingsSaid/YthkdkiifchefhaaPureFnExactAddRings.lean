/- The program's AddRings returns what the reference's returns, for every argument, in new memory, and leaves its arguments as they were. -/
import Derived.Test.YthkdkiifchefhaaFnExactAddRingsQ
set_option linter.unusedVariables false
set_option linter.unusedSimpArgs false
namespace Go.Proofs.Ythkdkiifchefhaa.Pure
open Go.RowKit Go.Proofs.Ythkdkiifchefhaa.PFnExactAddRings Go.Proofs.YthkdkiifchefhaaW.PrintWords Go.Proofs.YthkdkiifchefhaaW.PrintLast Go.Proofs.YthkdkiifchefhaaW.PrintMore Go.Proofs.Ythkdkiifchefhaa.Plain Go.Proofs.Ythkdkiifchefhaa.FnExactAddRingsQ

theorem FnExactAddRings : laws_FnExactAddRings.Pure := by
  intro m x n y c _ hx _ _ hy _ _
  refine Ev.rounds ?_
  unfold laws_FnExactAddRings.f
  unfold maxLen at hx hy
  rw [szRing_eq m x (by omega) 1048576 (by omega) (by omega)]
  refine ev_some ?_
  by_cases b : (1048576 : Int) < (x.length : Int)
  · exact ev_ifp (by rw [if_pos b]; omega) (Ev.now _)
  refine ev_ifn (by rw [if_neg b]; omega) ?_
  rw [if_neg b, szRing_eq n y (by omega) _ (by omega) (by omega)]
  refine ev_some ?_
  by_cases b2 : (1048576 : Int) - (x.length : Int) < (y.length : Int)
  · exact ev_ifp (by rw [if_pos b2]; omega) (Ev.now _)
  refine ev_ifn (by rw [if_neg b2]; omega) ?_
  have hs := sAdd_ev m x n y c (by omega) (by omega)
  have hi := iAdd_ev m x n y c
  have hl := addR_len m x n y c (by omega)
  generalize addR m x n y c = r at hs hi hl
  obtain ⟨q, l, e⟩ := r
  replace hl : l.length ≤ 1048576 := hl
  have hX := toRing_ev m x (by omega)
  have hY := toRing_ev n y (by omega)
  refine Ev.bind hX (Ev.bind hY (Ev.bind hs (Ev.bind hX (Ev.bind hY (Ev.bind hi (Ev.bind (eqRing_self q l (by omega)) (ev_ifp rfl (ev_ifp rfl ?_))))))))
  refine Ev.bind hX (Ev.bind (eqRing_self m x (by omega)) (ev_ifp rfl ?_))
  refine Ev.bind hY (Ev.bind (eqRing_self n y (by omega)) (ev_ifp rfl ?_))
  refine Ev.bind (markRing_ev m x 1 (by omega) (by omega)) (Ev.bind (markRing_ev n y (1 + x.length) (by omega) (by omega)) (ev_ifn (by simp only []; omega) ?_))
  refine Ev.bind (eqRing_self q l (by omega)) (ev_ifp rfl ?_)
  refine Ev.bind (markRing_ev q l 1 (by omega) (by omega)) (Ev.bind (heldRing_ev q 1 l.length (by omega) (by omega)) (ev_ifn (by omega) (ev_ifp rfl ?_)))
  refine Ev.bind hX (Ev.bind hY (Ev.bind hi (Ev.bind (eqRing_self q l (by omega)) (ev_ifp rfl (ev_ifp rfl ?_)))))
  refine Ev.bind (heldRing_ev q 1 l.length (by omega) (by omega)) (ev_ifn (by omega) (ev_ifp rfl (Ev.now _)))

end Go.Proofs.Ythkdkiifchefhaa.Pure
