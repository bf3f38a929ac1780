/- Products of ring elements do not depend on the order and have products of totals, turning twice changes nothing, and all results are the reference's, for every code. -/
import Derived.Test.YthkdkiifchefhaaZFnRingsQ
set_option linter.unusedVariables false
set_option linter.unusedSimpArgs false
namespace Go.Proofs.Ythkdkiifchefhaa.Pure
open Go.RowKit Go.Proofs.Ythkdkiifchefhaa.PFnRings Go.Proofs.YthkdkiifchefhaaW.PrintWords Go.Proofs.YthkdkiifchefhaaW.PrintLast Go.Proofs.YthkdkiifchefhaaW.PrintMore Go.Proofs.Ythkdkiifchefhaa.Plain Go.Proofs.Ythkdkiifchefhaa.FnRingsQ

theorem FnRings : laws_FnRings.Pure := by
  intro c hc _ hb0
  refine Ev.rounds ?_
  unfold laws_FnRings.f laws_big.f
  refine ev_some ?_
  by_cases big : (c.length : Int) > 4096
  · exact ev_ifp (by simpa using big) (Ev.now _)
  refine ev_ifn (by simpa using big) ?_
  have hl0 : c.length ≤ 4096 := by omega
  have hb : ∀ x ∈ c, 0 ≤ x ∧ x ≤ 255 := by
    intro x hx
    have := hb0 x hx
    simp [Lit.wf, IntKind.min, IntKind.max, IntKind.bits, IntKind.signed] at this
    omega
  obtain ⟨m, x, n, y, eD, hx, hy⟩ := drawMul_ev hl0 hb
  obtain ⟨m2, x2, n2, y2, a2, eD2, hx2, hy2⟩ := drawAdd_ev hl0 hb
  obtain ⟨m3, x3, eD3, hx3⟩ := drawTurn_ev hl0 hb
  obtain ⟨m4, x4, eD4, hx4⟩ := drawTotal_ev hl0 hb
  obtain ⟨n5, eD5⟩ := drawRes_ev hl0 hb
  obtain ⟨l5, c5, hl5, eS5, eI5, ok5⟩ := res_both n5
  have eI := iMul_ev m x n y
  have eS := sMul_ev m x n y (by omega) (by omega)
  have hlen := mulR_len m x n y
  generalize hr : mulR m x n y = r at eI eS hlen
  obtain ⟨q, l, e⟩ := r
  replace hlen : l.length ≤ 1000 := hlen
  have eI2 := iAdd_ev m2 x2 n2 y2 a2
  have eS2 := sAdd_ev m2 x2 n2 y2 a2 (by omega) (by omega)
  have hlen2 := addR_len m2 x2 n2 y2 a2 (by omega)
  generalize hr2 : addR m2 x2 n2 y2 a2 = r2 at eI2 eS2 hlen2
  obtain ⟨q2, l2, e2⟩ := r2
  replace hlen2 : l2.length ≤ 1048576 := hlen2
  have eI3 := iTurn_ev m3 x3
  have eS3 := sTurn_ev m3 x3 (by omega)
  have hlen3 := turnR_len m3 x3
  generalize hr3 : turnR m3 x3 = r3 at eI3 eS3 hlen3
  obtain ⟨q3, l3, e3⟩ := r3
  replace hlen3 : l3.length ≤ 1000 := hlen3
  have eI4 := iTotal_ev m4 x4 (by omega)
  have eS4 := sTotal_ev m4 x4 (by omega)
  generalize totalR m4 x4 = r4 at eI4 eS4
  obtain ⟨t4, e4⟩ := r4
  have j7 : Ev (fun k => laws_FnRings.j7 k e false m x n y q l) true := by
    refine Ev.step (fun k => by rw [laws_FnRings.j7, if_neg (by simp)]) ?_
    by_cases z : e = 0
    · subst z
      obtain ⟨g2, g40, gx, gy, rfl, rfl, hb2⟩ := mulR_ok hr
      have eB := iMul_ev n y q x
      rw [hb2] at eB
      refine ev_ifp rfl (Ev.bind eB (ev_ifp rfl (Ev.bind (ring9_self q (mulL q x y) (by omega)) (ev_ifp rfl (Ev.bind (lsum_ev (mulL q x y) (by omega)) (Ev.bind (lsum_ev x (by omega)) (Ev.bind (lsum_ev y (by omega)) ?_)))))))
      rw [mulL_sum g2 g40 gx gy, beq_self_eq_true]
      exact Ev.now _
    · refine ev_ifn z ?_
      have := mulR_bad hr z
      subst this
      exact Ev.now _
  have j6 : Ev (fun k => laws_FnRings.j6 k e a2 e2 m x n y q l m2 x2 n2 y2 q2 l2) true := by
    by_cases z : e2 = 0
    · subst z
      obtain ⟨hyx, rfl⟩ := addR_ok hr2
      refine Ev.step (fun k => by rw [laws_FnRings.j6, if_pos rfl]) ?_
      refine Ev.bind (lsum_ev _ (by omega)) (Ev.bind (lsum_ev x2 (by omega)) (Ev.bind (lsum_ev y2 (by omega)) ?_))
      rw [add_sum hyx, bne_self_eq_false]
      exact j7
    · exact Ev.step (fun k => by rw [laws_FnRings.j6, if_neg z]) j7
  have j5 : Ev (fun k => laws_FnRings.j5 k e a2 e2 e3 m x n y q l m2 x2 n2 y2 q2 l2 m3 x3 q3 l3) true := by
    by_cases z : e3 = 0
    · subst z
      obtain ⟨g2, g40, gr, rfl, rfl, ht⟩ := turnR_ok hr3
      obtain ⟨_, _, gx, _⟩ := ringB_len gr
      have eB := iTurn_ev q3 ((unitsL q3).map (turnG q3 x3))
      rw [ht] at eB
      refine Ev.step (fun k => by rw [laws_FnRings.j5, if_pos rfl]) ?_
      refine Ev.bind eB (ev_ifp rfl (Ev.bind (ring9_self q3 x3 (by omega)) (ev_ifp rfl (Ev.bind (lsum_ev _ (by omega)) (Ev.bind (lsum_ev x3 (by omega)) ?_)))))
      exact ev_ifp (turn_sum g2 g40 gx) j6
    · exact Ev.step (fun k => by rw [laws_FnRings.j5, if_neg z]) j6
  refine Ev.bind eD (Ev.bind eI (Ev.bind eS (ev_ifp rfl (Ev.bind (ring9_self q l (by omega)) (ev_ifp rfl (Ev.bind (isRing_ev m x) ?_))))))
  have eIs : Ev (fun k => spec_IsRing.f k m x) (ringB m x) := by
    unfold spec_IsRing.f
    exact Ev.bind (is10_ev m x (by omega)) (Ev.now _)
  refine Ev.bind eIs ?_
  refine Ev.step (fun k => by rw [laws_FnRings.j0, if_neg (by simp)]) ?_
  refine Ev.bind eD2 (Ev.bind eI2 (Ev.bind eS2 (ev_ifp rfl (Ev.bind (ring9_self q2 l2 (by omega)) ?_))))
  refine Ev.step (fun k => by rw [laws_FnRings.j1, if_neg (by simp)]) ?_
  refine Ev.bind eD3 (Ev.bind eI3 (Ev.bind eS3 (ev_ifp rfl (Ev.bind (ring9_self q3 l3 (by omega)) ?_))))
  refine Ev.step (fun k => by rw [laws_FnRings.j2, if_neg (by simp)]) ?_
  refine Ev.bind eD4 (Ev.bind eI4 (Ev.bind eS4 (ev_ifp rfl ?_)))
  refine Ev.step (fun k => by rw [laws_FnRings.j3, if_neg (by simp)]) ?_
  refine Ev.bind eD5 (Ev.bind eI5 (Ev.bind eS5 (ev_ifp rfl (Ev.bind (like_self l5 (by omega)) ?_))))
  by_cases z : c5 = 0
  · obtain ⟨b2, b40, rfl⟩ := ok5 z
    refine Ev.step (fun k => by rw [laws_FnRings.j4, if_neg (by simp), if_pos z]) ?_
    exact Ev.bind (totientOf_ev n5 (by omega) (by omega)) (ev_ifp rfl (ev_ifp rfl j5))
  · exact Ev.step (fun k => by rw [laws_FnRings.j4, if_neg (by simp), if_neg z]) j5

end Go.Proofs.Ythkdkiifchefhaa.Pure
