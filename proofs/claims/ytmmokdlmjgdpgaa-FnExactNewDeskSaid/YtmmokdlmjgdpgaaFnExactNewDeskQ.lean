/- Facts on what the printed functions answer. -/
import Derived.Test.YtmmokdlmjgdpgaaPlLists
import Derived.Test.YtmmokdlmjgdpgaaPFnExactNewDeskx
set_option linter.unusedVariables false
set_option linter.unusedSimpArgs false
namespace Go.Proofs.Ytmmokdlmjgdpgaa.FnExactNewDeskQ
open Go.RowKit Go.Proofs.Ytmmokdlmjgdpgaa.PFnExactNewDesk Go.Proofs.Ytmmokdlmjgdpgaa.Plain Go.Proofs.YtmmokdlmjgdpgaaW.PrintWords Go.Proofs.YtmmokdlmjgdpgaaW.PrintLast Go.Proofs.YtmmokdlmjgdpgaaW.PrintMore

/-! 010_eq -/
theorem eq_l0 (x y : List Int) (hl : x.length = y.length) (hb : x.length < 4611686018427387904) : ∀ d i : Nat, i + d = x.length →
    Ev (fun k => laws_eqInt64S.l0 k x y (i : Int)) (decide (x.drop i = y.drop i)) := by
  intro d
  induction d with
  | zero =>
    intro i hi
    refine Ev.step (fun k => by rw [laws_eqInt64S.l0, if_neg (by omega)]) ?_
    rw [List.drop_of_length_le (by omega), List.drop_of_length_le (by omega)]
    exact Ev.now _
  | succ d ih =>
    intro i hi
    refine Ev.step (fun k => by rw [laws_eqInt64S.l0, if_pos (by omega), if_pos (by omega), if_pos (by omega), wrap_idx i (by omega)]) ?_
    rw [drop_at x i (by omega), drop_at y i (by omega)]
    by_cases h : rd x i = rd y i
    · refine ev_ifp h ?_
      have := ih (i + 1) (by omega)
      simpa [h] using this
    · refine ev_ifn h ?_
      have : decide (rd x (i:Int) :: x.drop (i + 1) = rd y (i:Int) :: y.drop (i + 1)) = false := by simp [h]
      rw [this]
      exact Ev.now _

theorem eq_ev (x y : List Int) (hb : x.length < 4611686018427387904) : Ev (fun k => laws_eqInt64S.f k x y) (decide (x = y)) := by
  by_cases hl : x.length = y.length
  · refine Ev.congr (fun k => by rw [laws_eqInt64S.f, if_pos (by omega)]) ?_
    have := eq_l0 x y hl hb x.length 0 (by omega)
    simpa using this
  · refine Ev.congr (fun k => by rw [laws_eqInt64S.f, if_neg (by omega)]) ?_
    have : decide (x = y) = false := by simp; intro h; exact hl (by rw [h])
    rw [this]
    exact Ev.now _

theorem eq_self (x : List Int) (hb : x.length < 4611686018427387904) : Ev (fun k => laws_eqInt64S.f k x x) true := by
  have := eq_ev x x hb
  simpa using this

/-! 011_mark -/
theorem mark_l0 (d : Nat) : ∀ (l : List Int) (m : Int) (i : Nat), i + d = l.length → l.length < 4611686018427387904 → 0 ≤ m → m + d < 4611686018427387904 →
    Ev (fun k => laws_markInt64S.l0 k l m (i : Int)) (m + d, l.take i ++ iot m d) := by
  induction d with
  | zero =>
    intro l m i hi hb h0 hm
    refine Ev.step (fun k => by rw [laws_markInt64S.l0, if_neg (by omega)]) ?_
    have e : l.take i ++ iot m 0 = l := by simp only [iot, List.append_nil]; exact List.take_of_length_le (by omega)
    rw [e]; simpa using Ev.now (m, l)
  | succ d ih =>
    intro l m i hi hb h0 hm
    refine Ev.step (fun k => by rw [laws_markInt64S.l0, if_pos (by omega), if_pos (by omega), wrap_idx i (by omega), wrap_id (x := m + 1) (by omega) (by omega)]) ?_
    have := ih (l.set i m) (m + 1) (i + 1) (by simp; omega) (by simp; omega) (by omega) (by omega)
    have e : (l.set i m).take (i + 1) ++ iot (m + 1) d = l.take i ++ iot m (d + 1) := by
      have hs : i < (l.set i m).length := by simp; omega
      rw [List.take_succ_eq_append_getElem hs]
      simp only [List.getElem_set_self, iot, List.append_assoc, List.singleton_append]
      rw [List.take_set, List.set_eq_of_length_le (by rw [List.length_take]; omega)]
    rw [e] at this
    have e2 : m + 1 + (d : Int) = m + ((d + 1 : Nat) : Int) := by omega
    rw [e2] at this
    simpa using this

theorem mark_ev (l : List Int) (m : Int) (hm0 : 0 ≤ m) (hm : m + l.length < 4611686018427387904) : Ev (fun k => laws_markInt64S.f k l m) (m + l.length, iot m l.length) := by
  have := mark_l0 l.length l m 0 (by omega) (by omega) hm0 (by omega)
  simpa [laws_markInt64S.f] using this

/-! 012_held -/
theorem held_l0 (d : Nat) : ∀ (l : List Int) (m : Int) (i : Nat), i + d = l.length → l.length < 4611686018427387904 → l.drop i = iot m d → 0 ≤ m → m + d < 4611686018427387904 →
    Ev (fun k => laws_heldInt64S.l0 k l m (i : Int)) (m + d) := by
  induction d with
  | zero =>
    intro l m i hi hb hd h0 hm
    refine Ev.step (fun k => by rw [laws_heldInt64S.l0, if_neg (by omega)]) ?_
    simpa using Ev.now m
  | succ d ih =>
    intro l m i hi hb hd h0 hm
    rw [drop_at l i (by omega)] at hd
    simp only [iot, List.cons.injEq] at hd
    refine Ev.step (fun k => by rw [laws_heldInt64S.l0, if_pos (by omega), if_pos (by omega), if_pos hd.1, wrap_idx i (by omega), wrap_id (x := m + 1) (by omega) (by omega)]) ?_
    have := ih l (m + 1) (i + 1) (by omega) hb hd.2 (by omega) (by omega)
    have e2 : m + 1 + (d : Int) = m + ((d + 1 : Nat) : Int) := by omega
    rw [e2] at this
    exact this

theorem held_ev (m : Int) (n : Nat) (hm0 : 0 ≤ m) (hm : m + n < 4611686018427387904) : Ev (fun k => laws_heldInt64S.f k (iot m n) m) (m + n) := by
  have := held_l0 n (iot m n) m 0 (by simp [iot_length]) (by simp [iot_length]; omega) (by simp) hm0 hm
  simpa [laws_heldInt64S.f] using this

/-! 054_eqRing -/
theorem eqRing_self (m : Int) (x : List Int) (hb : x.length < 4611686018427387904) : Ev (fun k => laws_eqRing.f k m x m x) true := by
  unfold laws_eqRing.f
  refine ev_ifp rfl (Ev.bind (eq_self x hb) ?_)
  exact ev_ifp rfl (Ev.now _)

/-! 111_eqCyclo -/
theorem eqCyclo_self (m : Int) (x : List Int) (hb : x.length < 4611686018427387904) : Ev (fun k => laws_eqCyclo.f k m x m x) true := by
  unfold laws_eqCyclo.f
  refine ev_ifp rfl (Ev.bind (eq_self x hb) ?_)
  exact ev_ifp rfl (Ev.now _)

/-! 113_eqDesk -/
theorem eqDesk_self (m : Int) (x : List Int) (a b c n : Int) (y : List Int) (hx : x.length < 4611686018427387904) (hy : y.length < 4611686018427387904) : Ev (fun k => laws_eqDesk.f k m x a b c n y m x a b c n y) true := by
  unfold laws_eqDesk.f
  refine Ev.bind (eqCyclo_self m x hx) (ev_ifp rfl ?_)
  unfold laws_eqCharacter.f
  rw [if_pos rfl, if_pos rfl, if_pos rfl]
  refine ev_some (ev_ifp rfl (Ev.bind (eqRing_self n y hy) ?_))
  exact ev_ifp rfl (Ev.now _)

end Go.Proofs.Ytmmokdlmjgdpgaa.FnExactNewDeskQ
