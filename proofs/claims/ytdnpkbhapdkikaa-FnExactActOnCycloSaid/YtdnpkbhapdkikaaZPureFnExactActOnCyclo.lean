/- The program's ActOnCyclo returns what the reference's returns, for every argument, in new memory, and leaves its arguments as they were. -/
import Derived.Test.YtdnpkbhapdkikaaZFnExactActOnCycloQ
set_option linter.unusedVariables false
set_option linter.unusedSimpArgs false
namespace Go.Proofs.Ytdnpkbhapdkikaa.Pure
open Go.RowKit Go.Proofs.Ytdnpkbhapdkikaa.PFnExactActOnCyclo Go.Proofs.YtdnpkbhapdkikaaW.PrintWords Go.Proofs.YtdnpkbhapdkikaaW.PrintLast Go.Proofs.YtdnpkbhapdkikaaW.PrintMore Go.Proofs.Ytdnpkbhapdkikaa.Plain Go.Proofs.Ytdnpkbhapdkikaa.FnExactActOnCycloQ

theorem FnExactActOnCyclo : laws_FnExactActOnCyclo.Pure := by
  intro m x n y _ hx _ _ hy _
  refine Ev.rounds ?_
  unfold laws_FnExactActOnCyclo.f
  unfold maxLen at hx hy
  rw [szRing_eq m x (by omega) 1048576 (by omega) (by omega)]
  refine ev_some ?_
  by_cases b : (1048576 : Int) < (x.length : Int)
  · exact ev_ifp (by rw [if_pos b]; omega) (Ev.now _)
  refine ev_ifn (by rw [if_neg b]; omega) ?_
  rw [if_neg b, szCyclo_eq n y (by omega) _ (by omega) (by omega)]
  refine ev_some ?_
  by_cases b2 : (1048576 : Int) - (x.length : Int) < (y.length : Int)
  · exact ev_ifp (by rw [if_pos b2]; omega) (Ev.now _)
  refine ev_ifn (by rw [if_neg b2]; omega) ?_
  have hs := actS_ev m x n y (by omega) (by omega)
  have hi := actI_ev m x n y (by omega)
  have hl := actR_len m x n y
  generalize actR m x n y = r at hs hi hl
  obtain ⟨q, l, e⟩ := r
  replace hl : l.length ≤ 1000 := hl
  have hX := toRing_ev m x (by omega)
  have hY := toCyclo_ev n y (by omega)
  refine Ev.bind hX (Ev.bind hY (Ev.bind hs (Ev.bind hX (Ev.bind hY (Ev.bind hi (Ev.bind (eqCyclo_self q l (by omega)) (ev_ifp rfl (ev_ifp rfl ?_))))))))
  refine Ev.bind hX (Ev.bind (eqRing_self m x (by omega)) (ev_ifp rfl ?_))
  refine Ev.bind hY (Ev.bind (eqCyclo_self n y (by omega)) (ev_ifp rfl ?_))
  refine Ev.bind (markRing_ev m x 1 (by omega) (by omega)) (Ev.bind (markCyclo_ev n y (1 + x.length) (by omega) (by omega)) (ev_ifn (by simp only []; omega) ?_))
  refine Ev.bind (eqCyclo_self q l (by omega)) (ev_ifp rfl ?_)
  refine Ev.bind (markCyclo_ev q l 1 (by omega) (by omega)) (Ev.bind (heldCyclo_ev q 1 l.length (by omega) (by omega)) (ev_ifn (by omega) (ev_ifp rfl ?_)))
  refine Ev.bind hX (Ev.bind hY (Ev.bind hi (Ev.bind (eqCyclo_self q l (by omega)) (ev_ifp rfl (ev_ifp rfl ?_)))))
  refine Ev.bind (heldCyclo_ev q 1 l.length (by omega) (by omega)) (ev_ifn (by omega) (ev_ifp rfl (Ev.now _)))

end Go.Proofs.Ytdnpkbhapdkikaa.Pure
