-- LAID BY pp.py (a program of this repo): what the kit's print tells of this seat's functions, with contracts by hand
import Derived.Test.YtdnpkbhapdkikaaZPFnExactActOnCyclox0
import Derived.Test.YtdnpkbhapdkikaaZPFnExactActOnCyclox1
import Derived.Test.YtdnpkbhapdkikaaZPFnExactActOnCyclox6
import Derived.Test.YtdnpkbhapdkikaaZPFnExactActOnCyclox7
import Derived.Test.YtdnpkbhapdkikaaZPFnExactActOnCyclox11
import Derived.Test.YtdnpkbhapdkikaaZPFnExactActOnCyclox12
namespace Go.Proofs.Ytdnpkbhapdkikaa.PFnExactActOnCyclo
open Go.RowKit Go.Proofs.YtdnpkbhapdkikaaW.PrintWords Go.Proofs.YtdnpkbhapdkikaaW.PrintLast Go.Proofs.YtdnpkbhapdkikaaW.PrintMore
attribute [local go_sem] max2_int min2_int max_two min_two max_three min_three max_four min_four   -- for this text's walks alone
set_option linter.unusedVariables false
set_option linter.unusedSimpArgs false

/-! ### laws_FnExactActOnCyclo: function 3 -/
def laws_FnExactActOnCyclo.f (k : Nat) (a0_0 : Int) (l0_1 : List Int) (a1_0 : Int) (l1_1 : List Int) : Option (Bool) := (laws_szRing.f a0_0 l0_1 1048576).bind fun t426 => (if t426 < 0 then (some true) else ((laws_szCyclo.f a1_0 l1_1 t426).bind fun t427 => (if t427 < 0 then (some true) else ((laws_toRing.f k a0_0 l0_1).bind fun bt428 => ((laws_toCyclo.f k a1_0 l1_1).bind fun bt432 => ((spec_ActOnCyclo.f k bt428.1 bt428.2 bt432.1 bt432.2).bind fun bt436 => ((laws_toRing.f k a0_0 l0_1).bind fun bt442 => ((laws_toCyclo.f k a1_0 l1_1).bind fun bt447 => ((impl_ActOnCyclo.f k bt442.1 bt442.2 bt447.1 bt447.2).bind fun bt452 => ((laws_eqCyclo.f k bt452.1 bt452.2.1 bt436.1 bt436.2.1).bind fun t458 => (if t458 = true then (if bt452.2.2 = bt436.2.2 then ((laws_toRing.f k a0_0 l0_1).bind fun bt459 => ((laws_eqRing.f k bt442.1 bt442.2 bt459.1 bt459.2).bind fun t463 => (if t463 = true then ((laws_toCyclo.f k a1_0 l1_1).bind fun bt464 => ((laws_eqCyclo.f k bt447.1 bt447.2 bt464.1 bt464.2).bind fun t468 => (if t468 = true then ((laws_markRing.f k bt442.1 bt442.2 1).bind fun bt469 => ((laws_markCyclo.f k bt447.1 bt447.2 bt469.1).bind fun bt471 => (if bt471.1 < 0 then (none) else ((laws_eqCyclo.f k bt452.1 bt452.2.1 bt436.1 bt436.2.1).bind fun t473 => (if t473 = true then ((laws_markCyclo.f k bt452.1 bt452.2.1 1).bind fun bt474 => ((laws_heldCyclo.f k bt452.1 bt474.2 1).bind fun t476 => (if t476 < 0 then (none) else (if t476 = bt474.1 then ((laws_toRing.f k a0_0 l0_1).bind fun bt477 => ((laws_toCyclo.f k a1_0 l1_1).bind fun bt481 => ((impl_ActOnCyclo.f k bt477.1 bt477.2 bt481.1 bt481.2).bind fun bt485 => ((laws_eqCyclo.f k bt485.1 bt485.2.1 bt436.1 bt436.2.1).bind fun t491 => (if t491 = true then (if bt485.2.2 = bt436.2.2 then ((laws_heldCyclo.f k bt452.1 bt474.2 1).bind fun t492 => (if t492 < 0 then (none) else (if t492 = bt474.1 then (some true) else (none)))) else (none)) else (none)))))) else (none))))) else (none)))))) else (none)))) else (none)))) else (none)) else (none))))))))))))
theorem laws_FnExactActOnCyclo.mono : ∀ a0 a1 a2 a3 k, LeO (laws_FnExactActOnCyclo.f k a0 a1 a2 a3) (laws_FnExactActOnCyclo.f (k + 1) a0 a1 a2 a3) := by
 intro a0 a1 a2 a3 k
 unfold laws_FnExactActOnCyclo.f
 repeat' first | (with_reducible first | exact impl_ActOnCyclo.mono _ _ _ _ _ | exact laws_eqCyclo.mono _ _ _ _ _ | exact laws_eqRing.mono _ _ _ _ _ | exact laws_heldCyclo.mono _ _ _ _ | exact laws_markCyclo.mono _ _ _ _ | exact laws_markRing.mono _ _ _ _ | exact laws_toCyclo.mono _ _ _ | exact laws_toRing.mono _ _ _ | exact spec_ActOnCyclo.mono _ _ _ _ _ | exact LeO.refl _ | exact LeO.none _ | refine LeO.ite ?_ ?_ | refine LeO.bind ?_ (fun _ => ?_)) | exact LeO.none _ | refine LeO.ite ?_ ?_ | refine LeO.bind ?_ (fun _ => ?_)
def laws_FnExactActOnCyclo.T8 : Bool × List (List Nat × List Nat) := (true, [([], []), ([0], [0]), ([], []), ([2, 1], [2]), ([1, 3, 3], [1, 3]), ([4], [4]), ([5], [5]), ([5], [5]), ([], []), ([8, 6, 4, 0, 1, 2, 3, 4, 5, 6, 8], [6, 8]), ([7, 9, 0, 1, 2, 3, 4, 5, 6, 7, 8, 9], [7])])
def laws_FnExactActOnCyclo.B8 : List Nat := [0, 1, 0, 7, 15, 31, 63, 63, 0, 383, 1023]
theorem laws_FnExactActOnCyclo.tab8 : rtab .any (opsOf Try.f3 8) = laws_FnExactActOnCyclo.T8 := by kernel_rfl
theorem laws_FnExactActOnCyclo.bits8 : waitsOk laws_FnExactActOnCyclo.T8.2 laws_FnExactActOnCyclo.B8 = true := by kernel_rfl
def laws_FnExactActOnCyclo.T31 : Bool × List (List Nat × List Nat) := (true, [([], []), ([0], [0]), ([], []), ([2, 1], [2]), ([1, 3, 3], [1, 3]), ([4], [4]), ([5], [5]), ([5], [5]), ([], []), ([8, 6, 4, 0, 1, 2, 3, 4, 5, 6, 8], [6, 8]), ([7, 9, 0, 1, 2, 3, 4, 5, 6, 7, 8, 9], [7])])
def laws_FnExactActOnCyclo.B31 : List Nat := [0, 1, 0, 7, 15, 31, 63, 63, 0, 383, 1023]
theorem laws_FnExactActOnCyclo.tab31 : rtab .any (opsOf Try.f3 31) = laws_FnExactActOnCyclo.T31 := by kernel_rfl
theorem laws_FnExactActOnCyclo.bits31 : waitsOk laws_FnExactActOnCyclo.T31.2 laws_FnExactActOnCyclo.B31 = true := by kernel_rfl
set_option maxHeartbeats 8000000 in
set_option maxRecDepth 100000 in
theorem laws_FnExactActOnCyclo.calls (k : Nat) (a0_0 : Int) (A0_1 : Option Addr) (c0_1 : Nat) (l0_1 : List Int) (a1_0 : Int) (A1_1 : Option Addr) (c1_1 : Nat) (l1_1 : List Int) (r : Bool) (w : World) (hr0_1 : Kd.C (Kd.int .i64) w A0_1 l0_1.length l0_1) (hc0_1 : l0_1.length ≤ c0_1) (hr1_1 : Kd.C (Kd.int .i64) w A1_1 l1_1.length l1_1) (hc1_1 : l1_1.length ≤ c1_1) (h : laws_FnExactActOnCyclo.f k a0_0 l0_1 a1_0 l1_1 = some r) :
  Calls Try.prog 3 #[.agg #[.int .i64 a0_0, .slice A0_1 l0_1.length c0_1], .agg #[.int .i64 a1_0, .slice A1_1 l1_1.length c1_1]] w fun e w' => e = .returned (.bool r) ∧ Below w.heap.size w w' := by
 have hu24 := Try.underlying24
 have hu26 := Try.underlying26
 have hu29 := Try.underlying29
 have hu32 := Try.underlying32
 have HR0_1 := Aside0.mk hr0_1
 have HC0_1 := Aside0.mk hc0_1
 clear hr0_1 hc0_1
 have HR1_1 := Aside0.mk hr1_1
 have HC1_1 := Aside0.mk hc1_1
 clear hr1_1 hc1_1
 have HB := Aside0.mk (Below.refl w.heap.size w)
 have H := h
 unfold laws_FnExactActOnCyclo.f at H
 clear h
 replace H := Option.bind_eq_some_iff.mp H
 obtain ⟨t426, A30, H⟩ := H
 try dsimp only at H
 have A3 := Aside0.mk A30
 clear A30
 by_cases c4 : t426 < 0
 ·rw [if_pos c4] at H
  have c4b0 : decide (t426 < 0) = true := decide_eq_true c4
  clear c4
  obtain rfl := Option.some.inj H
  go_enter Try.func3, Try.ntmps3
  go_wp2_with (first | ((with_reducible refine gate_dst (N := 2) rfl ?_); refine bx 2 #[.int .i64 a0_0, .slice A0_1 l0_1.length c0_1] 24 (fun gb424 hg w5 hbox hb => ?_); have BK424 := Aside0.mk hbox; have GW424 := ge HB hg; have GE424 := GW424; replace HB := hs HB hb; clear hb hbox hg) | ((with_reducible refine gate_dst (N := 3) rfl ?_); refine bx 3 #[.int .i64 a1_0, .slice A1_1 l1_1.length c1_1] 26 (fun gb425 hg w6 hbox hb => ?_); have BK425 := Aside0.mk hbox; have GW425 := ge HB hg; have GE425 := GW425; obtain ⟨NB424_425, NB425_424⟩ := nb BK424 hg; replace BK424 := bb BK424 hb; replace HB := hs HB hb; clear hb hbox hg; have hnb7 := NB424_425.out; have hnc7 := NB425_424.out; have hcz8_0 : w6.cell? ⟨gb424, 0, none⟩ = some (.int .i64 a0_0) := (blk_cell BK424.out 0).trans rfl; have hcz8_1 : w6.cell? ⟨gb424, 1, none⟩ = some (.slice A0_1 l0_1.length c0_1) := (blk_cell BK424.out 1).trans rfl; have hfz8_0 := blk_frozen BK424.out 0; have hfz8_1 := blk_frozen BK424.out 1) | ((with_reducible refine gate_callee (f := 11) rfl ?_); refine gl (some 19) Try.func11 #[.agg #[.int .i64 a0_0, .slice A0_1 l0_1.length c0_1], .int .i64 1048576] ?_; (with_reducible refine (laws_szRing.calls a0_0 _ _ l0_1 1048576 t426 _ ?side1 ?side2 A3.out).mono ?_); (case side1 => repeat (first | exact (Kd.C_below HR0_1.out HB.out) | (with_reducible refine Kd.C_alloc ?_ _) | (with_reducible refine Kd.C_drewN ?_ _) | (with_reducible refine Kd.C_drew ?_))); (case side2 => exact HC0_1.out); rintro e w9 ⟨rfl, hb⟩; refine ⟨_, rfl, ?_⟩; replace BK424 := bb BK424 hb; replace BK425 := bb BK425 hb; replace HB := hs HB hb; (try clear hb)))
  go_ret
  exact ⟨by first | rfl | (simp [errW_none, errW_some] <;> rfl) | (simp [*, errW_none, errW_some] <;> rfl), bks HB.out⟩
 ·rw [if_neg c4] at H
  have c4b0 : decide (t426 < 0) = false := decide_eq_false c4
  clear c4
  replace H := Option.bind_eq_some_iff.mp H
  obtain ⟨t427, A100, H⟩ := H
  try dsimp only at H
  have A10 := Aside0.mk A100
  clear A100
  by_cases c11 : t427 < 0
  ·rw [if_pos c11] at H
   have c11b0 : decide (t427 < 0) = true := decide_eq_true c11
   clear c11
   obtain rfl := Option.some.inj H
   go_enter Try.func3, Try.ntmps3
   go_wp2_with (first | ((with_reducible refine gate_dst (N := 2) rfl ?_); refine bx 2 #[.int .i64 a0_0, .slice A0_1 l0_1.length c0_1] 24 (fun gb424 hg w12 hbox hb => ?_); have BK424 := Aside0.mk hbox; have GW424 := ge HB hg; have GE424 := GW424; replace HB := hs HB hb; clear hb hbox hg) | ((with_reducible refine gate_dst (N := 3) rfl ?_); refine bx 3 #[.int .i64 a1_0, .slice A1_1 l1_1.length c1_1] 26 (fun gb425 hg w13 hbox hb => ?_); have BK425 := Aside0.mk hbox; have GW425 := ge HB hg; have GE425 := GW425; obtain ⟨NB424_425, NB425_424⟩ := nb BK424 hg; replace BK424 := bb BK424 hb; replace HB := hs HB hb; clear hb hbox hg; have hnb14 := NB424_425.out; have hnc14 := NB425_424.out; have hcz15_0 : w13.cell? ⟨gb424, 0, none⟩ = some (.int .i64 a0_0) := (blk_cell BK424.out 0).trans rfl; have hcz15_1 : w13.cell? ⟨gb424, 1, none⟩ = some (.slice A0_1 l0_1.length c0_1) := (blk_cell BK424.out 1).trans rfl; have hfz15_0 := blk_frozen BK424.out 0; have hfz15_1 := blk_frozen BK424.out 1) | ((with_reducible refine gate_callee (f := 11) rfl ?_); refine gl (some 19) Try.func11 #[.agg #[.int .i64 a0_0, .slice A0_1 l0_1.length c0_1], .int .i64 1048576] ?_; (with_reducible refine (laws_szRing.calls a0_0 _ _ l0_1 1048576 t426 _ ?side1 ?side2 A3.out).mono ?_); (case side1 => repeat (first | exact (Kd.C_below HR0_1.out HB.out) | (with_reducible refine Kd.C_alloc ?_ _) | (with_reducible refine Kd.C_drewN ?_ _) | (with_reducible refine Kd.C_drew ?_))); (case side2 => exact HC0_1.out); rintro e w16 ⟨rfl, hb⟩; refine ⟨_, rfl, ?_⟩; replace BK424 := bb BK424 hb; replace BK425 := bb BK425 hb; replace HB := hs HB hb; (try clear hb); have hcz17_0 : w16.cell? ⟨gb425, 0, none⟩ = some (.int .i64 a1_0) := (blk_cell BK425.out 0).trans rfl; have hcz17_1 : w16.cell? ⟨gb425, 1, none⟩ = some (.slice A1_1 l1_1.length c1_1) := (blk_cell BK425.out 1).trans rfl; have hfz17_0 := blk_frozen BK425.out 0; have hfz17_1 := blk_frozen BK425.out 1) | ((with_reducible refine gate_callee (f := 12) rfl ?_); refine gl (some 24) Try.func12 #[.agg #[.int .i64 a1_0, .slice A1_1 l1_1.length c1_1], .int .i64 t426] ?_; (with_reducible refine (laws_szCyclo.calls a1_0 _ _ l1_1 t426 t427 _ ?side1 ?side2 A10.out).mono ?_); (case side1 => repeat (first | exact (Kd.C_below HR1_1.out HB.out) | (with_reducible refine Kd.C_alloc ?_ _) | (with_reducible refine Kd.C_drewN ?_ _) | (with_reducible refine Kd.C_drew ?_))); (case side2 => exact HC1_1.out); rintro e w18 ⟨rfl, hb⟩; refine ⟨_, rfl, ?_⟩; replace BK424 := bb BK424 hb; replace BK425 := bb BK425 hb; replace HB := hs HB hb; (try clear hb)))
   go_ret
   exact ⟨by first | rfl | (simp [errW_none, errW_some] <;> rfl) | (simp [*, errW_none, errW_some] <;> rfl), bks HB.out⟩
  ·rw [if_neg c11] at H
   have c11b0 : decide (t427 < 0) = false := decide_eq_false c11
   clear c11
   replace H := Option.bind_eq_some_iff.mp H
   obtain ⟨⟨t428, t429⟩, A190, H⟩ := H
   try dsimp only at H
   have A19 := Aside0.mk A190
   clear A190
   replace H := Option.bind_eq_some_iff.mp H
   obtain ⟨⟨t432, t433⟩, A200, H⟩ := H
   try dsimp only at H
   have A20 := Aside0.mk A200
   clear A200
   replace H := Option.bind_eq_some_iff.mp H
   obtain ⟨⟨t436, t437, t440⟩, A210, H⟩ := H
   try dsimp only at H
   have A21 := Aside0.mk A210
   clear A210
   replace H := Option.bind_eq_some_iff.mp H
   obtain ⟨⟨t442, t443⟩, A220, H⟩ := H
   try dsimp only at H
   have A22 := Aside0.mk A220
   clear A220
   replace H := Option.bind_eq_some_iff.mp H
   obtain ⟨⟨t447, t448⟩, A230, H⟩ := H
   try dsimp only at H
   have A23 := Aside0.mk A230
   clear A230
   replace H := Option.bind_eq_some_iff.mp H
   obtain ⟨⟨t452, t453, t456⟩, A240, H⟩ := H
   try dsimp only at H
   have A24 := Aside0.mk A240
   clear A240
   replace H := Option.bind_eq_some_iff.mp H
   obtain ⟨t458, A250, H⟩ := H
   try dsimp only at H
   have A25 := Aside0.mk A250
   clear A250
   by_cases c26 : t458 = true
   rotate_left
   ·replace c26 := Bool.eq_false_iff.mpr c26
    subst c26
    have H1 : (none) = some r := by rw [if_neg (show ¬ (false = true) by decide)] at H; exact H
    clear H
    have H := H1
    clear H1
    exact absurd H (by simp)
   subst c26
   have H1 : (if t456 = t440 then ((laws_toRing.f k a0_0 l0_1).bind fun bt459 => ((laws_eqRing.f k t442 t443 bt459.1 bt459.2).bind fun t463 => (if t463 = true then ((laws_toCyclo.f k a1_0 l1_1).bind fun bt464 => ((laws_eqCyclo.f k t447 t448 bt464.1 bt464.2).bind fun t468 => (if t468 = true then ((laws_markRing.f k t442 t443 1).bind fun bt469 => ((laws_markCyclo.f k t447 t448 bt469.1).bind fun bt471 => (if bt471.1 < 0 then (none) else ((laws_eqCyclo.f k t452 t453 t436 t437).bind fun t473 => (if t473 = true then ((laws_markCyclo.f k t452 t453 1).bind fun bt474 => ((laws_heldCyclo.f k t452 bt474.2 1).bind fun t476 => (if t476 < 0 then (none) else (if t476 = bt474.1 then ((laws_toRing.f k a0_0 l0_1).bind fun bt477 => ((laws_toCyclo.f k a1_0 l1_1).bind fun bt481 => ((impl_ActOnCyclo.f k bt477.1 bt477.2 bt481.1 bt481.2).bind fun bt485 => ((laws_eqCyclo.f k bt485.1 bt485.2.1 t436 t437).bind fun t491 => (if t491 = true then (if bt485.2.2 = t440 then ((laws_heldCyclo.f k t452 bt474.2 1).bind fun t492 => (if t492 < 0 then (none) else (if t492 = bt474.1 then (some true) else (none)))) else (none)) else (none)))))) else (none))))) else (none)))))) else (none)))) else (none)))) else (none)) = some r := by rw [if_pos rfl] at H; exact H
   clear H
   have H := H1
   clear H1
   by_cases c27 : t456 = t440
   rotate_left
   ·rw [if_neg c27] at H; exact absurd H (by simp)
   rw [if_pos c27] at H
   have c27b0 : (t456 == t440) = true := beq_iff_eq.mpr c27
   have c27b1 : (t456 != t440) = false := bne_eq_false_iff_eq.mpr c27
   clear c27
   replace H := Option.bind_eq_some_iff.mp H
   obtain ⟨⟨t459, t460⟩, A280, H⟩ := H
   try dsimp only at H
   have A28 := Aside0.mk A280
   clear A280
   replace H := Option.bind_eq_some_iff.mp H
   obtain ⟨t463, A290, H⟩ := H
   try dsimp only at H
   have A29 := Aside0.mk A290
   clear A290
   by_cases c30 : t463 = true
   rotate_left
   ·replace c30 := Bool.eq_false_iff.mpr c30
    subst c30
    have H1 : (none) = some r := by rw [if_neg (show ¬ (false = true) by decide)] at H; exact H
    clear H
    have H := H1
    clear H1
    exact absurd H (by simp)
   subst c30
   have H1 : ((laws_toCyclo.f k a1_0 l1_1).bind fun bt464 => ((laws_eqCyclo.f k t447 t448 bt464.1 bt464.2).bind fun t468 => (if t468 = true then ((laws_markRing.f k t442 t443 1).bind fun bt469 => ((laws_markCyclo.f k t447 t448 bt469.1).bind fun bt471 => (if bt471.1 < 0 then (none) else ((laws_eqCyclo.f k t452 t453 t436 t437).bind fun t473 => (if t473 = true then ((laws_markCyclo.f k t452 t453 1).bind fun bt474 => ((laws_heldCyclo.f k t452 bt474.2 1).bind fun t476 => (if t476 < 0 then (none) else (if t476 = bt474.1 then ((laws_toRing.f k a0_0 l0_1).bind fun bt477 => ((laws_toCyclo.f k a1_0 l1_1).bind fun bt481 => ((impl_ActOnCyclo.f k bt477.1 bt477.2 bt481.1 bt481.2).bind fun bt485 => ((laws_eqCyclo.f k bt485.1 bt485.2.1 t436 t437).bind fun t491 => (if t491 = true then (if bt485.2.2 = t440 then ((laws_heldCyclo.f k t452 bt474.2 1).bind fun t492 => (if t492 < 0 then (none) else (if t492 = bt474.1 then (some true) else (none)))) else (none)) else (none)))))) else (none))))) else (none)))))) else (none)))) = some r := by rw [if_pos rfl] at H; exact H
   clear H
   have H := H1
   clear H1
   replace H := Option.bind_eq_some_iff.mp H
   obtain ⟨⟨t464, t465⟩, A310, H⟩ := H
   try dsimp only at H
   have A31 := Aside0.mk A310
   clear A310
   replace H := Option.bind_eq_some_iff.mp H
   obtain ⟨t468, A320, H⟩ := H
   try dsimp only at H
   have A32 := Aside0.mk A320
   clear A320
   by_cases c33 : t468 = true
   rotate_left
   ·replace c33 := Bool.eq_false_iff.mpr c33
    subst c33
    have H1 : (none) = some r := by rw [if_neg (show ¬ (false = true) by decide)] at H; exact H
    clear H
    have H := H1
    clear H1
    exact absurd H (by simp)
   subst c33
   have H1 : ((laws_markRing.f k t442 t443 1).bind fun bt469 => ((laws_markCyclo.f k t447 t448 bt469.1).bind fun bt471 => (if bt471.1 < 0 then (none) else ((laws_eqCyclo.f k t452 t453 t436 t437).bind fun t473 => (if t473 = true then ((laws_markCyclo.f k t452 t453 1).bind fun bt474 => ((laws_heldCyclo.f k t452 bt474.2 1).bind fun t476 => (if t476 < 0 then (none) else (if t476 = bt474.1 then ((laws_toRing.f k a0_0 l0_1).bind fun bt477 => ((laws_toCyclo.f k a1_0 l1_1).bind fun bt481 => ((impl_ActOnCyclo.f k bt477.1 bt477.2 bt481.1 bt481.2).bind fun bt485 => ((laws_eqCyclo.f k bt485.1 bt485.2.1 t436 t437).bind fun t491 => (if t491 = true then (if bt485.2.2 = t440 then ((laws_heldCyclo.f k t452 bt474.2 1).bind fun t492 => (if t492 < 0 then (none) else (if t492 = bt474.1 then (some true) else (none)))) else (none)) else (none)))))) else (none))))) else (none)))))) = some r := by rw [if_pos rfl] at H; exact H
   clear H
   have H := H1
   clear H1
   replace H := Option.bind_eq_some_iff.mp H
   obtain ⟨⟨t469, t470⟩, A340, H⟩ := H
   try dsimp only at H
   have A34 := Aside0.mk A340
   clear A340
   replace H := Option.bind_eq_some_iff.mp H
   obtain ⟨⟨t471, t472⟩, A350, H⟩ := H
   try dsimp only at H
   have A35 := Aside0.mk A350
   clear A350
   by_cases c36 : t471 < 0
   ·rw [if_pos c36] at H; exact absurd H (by simp)
   rw [if_neg c36] at H
   have c36b0 : decide (t471 < 0) = false := decide_eq_false c36
   clear c36
   replace H := Option.bind_eq_some_iff.mp H
   obtain ⟨t473, A370, H⟩ := H
   try dsimp only at H
   have A37 := Aside0.mk A370
   clear A370
   by_cases c38 : t473 = true
   rotate_left
   ·replace c38 := Bool.eq_false_iff.mpr c38
    subst c38
    have H1 : (none) = some r := by rw [if_neg (show ¬ (false = true) by decide)] at H; exact H
    clear H
    have H := H1
    clear H1
    exact absurd H (by simp)
   subst c38
   have H1 : ((laws_markCyclo.f k t452 t453 1).bind fun bt474 => ((laws_heldCyclo.f k t452 bt474.2 1).bind fun t476 => (if t476 < 0 then (none) else (if t476 = bt474.1 then ((laws_toRing.f k a0_0 l0_1).bind fun bt477 => ((laws_toCyclo.f k a1_0 l1_1).bind fun bt481 => ((impl_ActOnCyclo.f k bt477.1 bt477.2 bt481.1 bt481.2).bind fun bt485 => ((laws_eqCyclo.f k bt485.1 bt485.2.1 t436 t437).bind fun t491 => (if t491 = true then (if bt485.2.2 = t440 then ((laws_heldCyclo.f k t452 bt474.2 1).bind fun t492 => (if t492 < 0 then (none) else (if t492 = bt474.1 then (some true) else (none)))) else (none)) else (none)))))) else (none))))) = some r := by rw [if_pos rfl] at H; exact H
   clear H
   have H := H1
   clear H1
   replace H := Option.bind_eq_some_iff.mp H
   obtain ⟨⟨t474, t475⟩, A390, H⟩ := H
   try dsimp only at H
   have A39 := Aside0.mk A390
   clear A390
   replace H := Option.bind_eq_some_iff.mp H
   obtain ⟨t476, A400, H⟩ := H
   try dsimp only at H
   have A40 := Aside0.mk A400
   clear A400
   by_cases c41 : t476 < 0
   ·rw [if_pos c41] at H; exact absurd H (by simp)
   rw [if_neg c41] at H
   have c41b0 : decide (t476 < 0) = false := decide_eq_false c41
   clear c41
   by_cases c42 : t476 = t474
   rotate_left
   ·rw [if_neg c42] at H; exact absurd H (by simp)
   rw [if_pos c42] at H
   have c42b0 : (t476 == t474) = true := beq_iff_eq.mpr c42
   have c42b1 : (t476 != t474) = false := bne_eq_false_iff_eq.mpr c42
   clear c42
   replace H := Option.bind_eq_some_iff.mp H
   obtain ⟨⟨t477, t478⟩, A430, H⟩ := H
   try dsimp only at H
   have A43 := Aside0.mk A430
   clear A430
   replace H := Option.bind_eq_some_iff.mp H
   obtain ⟨⟨t481, t482⟩, A440, H⟩ := H
   try dsimp only at H
   have A44 := Aside0.mk A440
   clear A440
   replace H := Option.bind_eq_some_iff.mp H
   obtain ⟨⟨t485, t486, t489⟩, A450, H⟩ := H
   try dsimp only at H
   have A45 := Aside0.mk A450
   clear A450
   replace H := Option.bind_eq_some_iff.mp H
   obtain ⟨t491, A460, H⟩ := H
   try dsimp only at H
   have A46 := Aside0.mk A460
   clear A460
   by_cases c47 : t491 = true
   rotate_left
   ·replace c47 := Bool.eq_false_iff.mpr c47
    subst c47
    have H1 : (none) = some r := by rw [if_neg (show ¬ (false = true) by decide)] at H; exact H
    clear H
    have H := H1
    clear H1
    exact absurd H (by simp)
   subst c47
   have H1 : (if t489 = t440 then ((laws_heldCyclo.f k t452 t475 1).bind fun t492 => (if t492 < 0 then (none) else (if t492 = t474 then (some true) else (none)))) else (none)) = some r := by rw [if_pos rfl] at H; exact H
   clear H
   have H := H1
   clear H1
   by_cases c48 : t489 = t440
   rotate_left
   ·rw [if_neg c48] at H; exact absurd H (by simp)
   rw [if_pos c48] at H
   have c48b0 : (t489 == t440) = true := beq_iff_eq.mpr c48
   have c48b1 : (t489 != t440) = false := bne_eq_false_iff_eq.mpr c48
   clear c48
   replace H := Option.bind_eq_some_iff.mp H
   obtain ⟨t492, A490, H⟩ := H
   try dsimp only at H
   have A49 := Aside0.mk A490
   clear A490
   by_cases c50 : t492 < 0
   ·rw [if_pos c50] at H; exact absurd H (by simp)
   rw [if_neg c50] at H
   have c50b0 : decide (t492 < 0) = false := decide_eq_false c50
   clear c50
   by_cases c51 : t492 = t474
   rotate_left
   ·rw [if_neg c51] at H; exact absurd H (by simp)
   rw [if_pos c51] at H
   have c51b0 : (t492 == t474) = true := beq_iff_eq.mpr c51
   have c51b1 : (t492 != t474) = false := bne_eq_false_iff_eq.mpr c51
   clear c51
   obtain rfl := Option.some.inj H
   go_enter Try.func3, Try.ntmps3
   try go_wp2_with (first | ((with_reducible refine gate_dst (N := 2) rfl ?_); refine bx 2 #[.int .i64 a0_0, .slice A0_1 l0_1.length c0_1] 24 (fun gb424 hg w52 hbox hb => ?_); have BK424 := Aside0.mk hbox; have GW424 := ge HB hg; have GE424 := GW424; replace HB := hs HB hb; clear hb hbox hg) | ((with_reducible refine gate_dst (N := 3) rfl ?_); refine bx 3 #[.int .i64 a1_0, .slice A1_1 l1_1.length c1_1] 26 (fun gb425 hg w53 hbox hb => ?_); have BK425 := Aside0.mk hbox; have GW425 := ge HB hg; have GE425 := GW425; obtain ⟨NB424_425, NB425_424⟩ := nb BK424 hg; replace BK424 := bb BK424 hb; replace HB := hs HB hb; clear hb hbox hg; have hnb54 := NB424_425.out; have hnc54 := NB425_424.out; have hcz55_0 : w53.cell? ⟨gb424, 0, none⟩ = some (.int .i64 a0_0) := (blk_cell BK424.out 0).trans rfl; have hcz55_1 : w53.cell? ⟨gb424, 1, none⟩ = some (.slice A0_1 l0_1.length c0_1) := (blk_cell BK424.out 1).trans rfl; have hfz55_0 := blk_frozen BK424.out 0; have hfz55_1 := blk_frozen BK424.out 1) | ((with_reducible refine gate_callee (f := 11) rfl ?_); refine gl (some 19) Try.func11 #[.agg #[.int .i64 a0_0, .slice A0_1 l0_1.length c0_1], .int .i64 1048576] ?_; (with_reducible refine (laws_szRing.calls a0_0 _ _ l0_1 1048576 t426 _ ?side1 ?side2 A3.out).mono ?_); (case side1 => repeat (first | exact (Kd.C_below HR0_1.out HB.out) | (with_reducible refine Kd.C_alloc ?_ _) | (with_reducible refine Kd.C_drewN ?_ _) | (with_reducible refine Kd.C_drew ?_))); (case side2 => exact HC0_1.out); rintro e w56 ⟨rfl, hb⟩; refine ⟨_, rfl, ?_⟩; replace BK424 := bb BK424 hb; replace BK425 := bb BK425 hb; replace HB := hs HB hb; (try clear hb); have hcz57_0 : w56.cell? ⟨gb425, 0, none⟩ = some (.int .i64 a1_0) := (blk_cell BK425.out 0).trans rfl; have hcz57_1 : w56.cell? ⟨gb425, 1, none⟩ = some (.slice A1_1 l1_1.length c1_1) := (blk_cell BK425.out 1).trans rfl; have hfz57_0 := blk_frozen BK425.out 0; have hfz57_1 := blk_frozen BK425.out 1) | ((with_reducible refine gate_callee (f := 12) rfl ?_); refine gl (some 24) Try.func12 #[.agg #[.int .i64 a1_0, .slice A1_1 l1_1.length c1_1], .int .i64 t426] ?_; (with_reducible refine (laws_szCyclo.calls a1_0 _ _ l1_1 t426 t427 _ ?side1 ?side2 A10.out).mono ?_); (case side1 => repeat (first | exact (Kd.C_below HR1_1.out HB.out) | (with_reducible refine Kd.C_alloc ?_ _) | (with_reducible refine Kd.C_drewN ?_ _) | (with_reducible refine Kd.C_drew ?_))); (case side2 => exact HC1_1.out); rintro e w58 ⟨rfl, hb⟩; refine ⟨_, rfl, ?_⟩; replace BK424 := bb BK424 hb; replace BK425 := bb BK425 hb; replace HB := hs HB hb; (try clear hb)))
   replace BK424 := bd BK424
   replace BK425 := bd BK425
   replace HB := hd0 HB
   refine start_ (n := 11) (S := fun w' => w'.cell? ⟨gb424, 0, none⟩ = some (.int .i64 a0_0) ∧ w'.cell? ⟨gb424, 1, none⟩ = some (.slice A0_1 l0_1.length c0_1) ∧ w'.cell? ⟨gb425, 0, none⟩ = some (.int .i64 a1_0) ∧ w'.cell? ⟨gb425, 1, none⟩ = some (.slice A1_1 l1_1.length c1_1)) (ds := []) #[false, false, false, false, false, false, false, false, false, false, false] (by kernel_rfl) rfl rfl ⟨(blk_cell BK424.out 0).trans rfl, (blk_cell BK424.out 1).trans rfl, (blk_cell BK425.out 0).trans rfl, (blk_cell BK425.out 1).trans rfl⟩ (fun hHeld => ?_); refine with_tabW laws_FnExactActOnCyclo.tab8 laws_FnExactActOnCyclo.bits8 (fun HT_ HW_ => ?_)
   generalize w58.drew = w59 at BK424 BK425 HB hHeld ⊢
   refine tk 0 (some 28) HT_ HW_ hHeld ?_ (hy := by rintro w' ⟨s0, s1, s2, s3⟩; go_simp; with_reducible rfl)
   refine tk 2 (some 30) HT_ HW_ hHeld ?_ (hy := by rintro w' ⟨s0, s1, s2, s3⟩; go_simp; with_reducible rfl)
   refine join_ (σ := Value × Value × Value × Nat) 2 #[true, true, true, true, true, true, true, true, true, false, false] (fun s_ => [(29, .agg #[.int .i64 t428, s_.1]), (31, .agg #[.int .i64 t432, s_.2.1]), (32, .tuple #[.agg #[.int .i64 t436, s_.2.2.1], .int .i64 t440]), (6, .pointer (some ⟨s_.2.2.2, 0, none⟩)), (27, .tuple #[.agg #[.int .i64 t436, s_.2.2.1], .int .i64 t440]), (33, .agg #[.int .i64 t436, s_.2.2.1]), (34, .int .i64 t440)]) (fun s_ w' => (w'.cell? ⟨gb424, 0, none⟩ = some (.int .i64 a0_0) ∧ w'.cell? ⟨gb424, 1, none⟩ = some (.slice A0_1 l0_1.length c0_1) ∧ w'.cell? ⟨gb425, 0, none⟩ = some (.int .i64 a1_0) ∧ w'.cell? ⟨gb425, 1, none⟩ = some (.slice A1_1 l1_1.length c1_1)) ∧ (Kd.R (Kd.int .i64) 2 w' w.heap.size (fun k_ => some k_ ≠ (s_.2.1 : Value).ownBlock ∧ some k_ ≠ (s_.2.2.1 : Value).ownBlock) s_.1 t429) ∧ (Kd.R (Kd.int .i64) 2 w' w.heap.size (fun k_ => some k_ ≠ (s_.1 : Value).ownBlock ∧ some k_ ≠ (s_.2.2.1 : Value).ownBlock) s_.2.1 t433) ∧ (Kd.R (Kd.int .i64) 2 w' w.heap.size (fun k_ => some k_ ≠ (s_.1 : Value).ownBlock ∧ some k_ ≠ (s_.2.1 : Value).ownBlock) s_.2.2.1 t437) ∧ (w'.heap[gb424]? = some (.cells #[.int .i64 a0_0, .slice A0_1 l0_1.length c0_1] 24 (0, 0))) ∧ (w'.heap[gb425]? = some (.cells #[.int .i64 a1_0, .slice A1_1 l1_1.length c1_1] 26 (0, 0))) ∧ (w'.heap[s_.2.2.2]? = some (.cells #[.int .i64 0, .slice none 0 0] 29 (0, 0))) ∧ (w.heap.size ≤ s_.2.2.2) ∧ (w.heap.size ≤ s_.2.2.2) ∧ (gb424 ≠ s_.2.2.2) ∧ (s_.2.2.2 ≠ gb424) ∧ (gb425 ≠ s_.2.2.2) ∧ (s_.2.2.2 ≠ gb425) ∧ (Below w.heap.size w w')) ?_ ?_
   rotate_left
   ·intro hCont
    refine two_ (i := 1) (j := 8) (Ni := some 29) (Nj := some 6) #[true, true, true, false, false, false, false, false, false, false, false] #[true, false, true, false, false, false, false, false, true, false, false] rfl rfl rfl rfl (two_of HT_.out (by kernel_rfl)) (by decide) (by decide) (fun K hK => ?_) (fun K hK => ?_)
    ·skip
     refine gs Try.func14 #[.agg #[.int .i64 a0_0, .slice A0_1 l0_1.length c0_1]] ?_
     with_reducible refine (laws_toRing.calls k a0_0 _ _ l0_1 t428 t429 _ ?side1 ?side2 A19.out).mono ?_
     (case side1 => repeat (first | exact (Kd.C_below HR0_1.out HB.out) | (with_reducible refine Kd.C_alloc ?_ _) | (with_reducible refine Kd.C_drewN ?_ _) | (with_reducible refine Kd.C_drew ?_)))
     (case side2 => exact HC0_1.out)
     rintro e w60 ⟨v430, rfl, ho0, hb⟩
     refine ⟨_, rfl, ?_⟩
     have HO431 := Aside0.mk (Kd.R_lower ho0 (below_size (bks HB.out)))
     replace BK424 := bb BK424 hb
     replace BK425 := bb BK425 hb
     replace HB := hs HB hb
     (try clear hb ho0)
     refine hK.out _ _ ⟨(blk_cell BK424.out 0).trans rfl, (blk_cell BK424.out 1).trans rfl, (blk_cell BK425.out 0).trans rfl, (blk_cell BK425.out 1).trans rfl⟩ (fun hHeld => ?_)
     clear hK K
     refine nm ?_
     refine two_ (i := 3) (j := 8) (Ni := some 31) (Nj := some 6) #[true, true, true, true, false, false, false, false, false, false, false] #[true, true, true, false, false, false, false, false, true, false, false] rfl rfl rfl rfl (two_of HT_.out (by kernel_rfl)) (by decide) (by decide) (fun K hK => ?_) (fun K hK => ?_)
     ·skip
      refine gs Try.func15 #[.agg #[.int .i64 a1_0, .slice A1_1 l1_1.length c1_1]] ?_
      with_reducible refine (laws_toCyclo.calls k a1_0 _ _ l1_1 t432 t433 _ ?side1 ?side2 A20.out).mono ?_
      (case side1 => repeat (first | exact (Kd.C_below HR1_1.out HB.out) | (with_reducible refine Kd.C_alloc ?_ _) | (with_reducible refine Kd.C_drewN ?_ _) | (with_reducible refine Kd.C_drew ?_)))
      (case side2 => exact HC1_1.out)
      rintro e w61 ⟨v434, rfl, ho0, hb⟩
      refine ⟨_, rfl, ?_⟩
      have HO435 := Aside0.mk (Kd.R_lower (Kd.R_new' ho0 (Kd.R_lt (rk HO431.out))) (below_size (bks HB.out)))
      replace HO431 := re HO431 ho0 hb
      replace BK424 := bb BK424 hb
      replace BK425 := bb BK425 hb
      replace HB := hs HB hb
      (try clear hb ho0)
      obtain ⟨Ao62, co62, eo62⟩ := Kd.R_slice HO431.out
      (first | subst eo62 | (injection eo62 with f1_ f2_ f3_; have f4_ := f1_.symm; have f5_ := f3_.symm; clear f1_ f2_ f3_; subst f4_; subst f5_))
      obtain ⟨Ao63, co63, eo63⟩ := Kd.R_slice HO435.out
      (first | subst eo63 | (injection eo63 with f1_ f2_ f3_; have f4_ := f1_.symm; have f5_ := f3_.symm; clear f1_ f2_ f3_; subst f4_; subst f5_))
      refine hK.out _ _ ⟨(blk_cell BK424.out 0).trans rfl, (blk_cell BK424.out 1).trans rfl, (blk_cell BK425.out 0).trans rfl, (blk_cell BK425.out 1).trans rfl⟩ (fun hHeld => ?_)
      clear hK K
      refine nm ?_
      refine two_ (i := 4) (j := 8) (Ni := some 32) (Nj := some 6) #[true, true, true, true, true, false, false, false, false, false, false] #[true, true, true, true, false, false, false, false, true, false, false] rfl rfl rfl rfl (two_of HT_.out (by kernel_rfl)) (by decide) (by decide) (fun K hK => ?_) (fun K hK => ?_)
      ·skip
       refine gs Try.func13 #[.agg #[.int .i64 t428, .slice Ao62 t429.length co62], .agg #[.int .i64 t432, .slice Ao63 t433.length co63]] ?_
       with_reducible refine (spec_ActOnCyclo.calls k t428 _ _ t429 t432 _ _ t433 t436 t437 t440 _ ?side1 ?side2 ?side3 ?side4 A21.out).mono ?_
       (case side1 => repeat (first | exact (Kd.R_reads' HO431.out).2.2 | (with_reducible refine Kd.C_alloc ?_ _) | (with_reducible refine Kd.C_drewN ?_ _) | (with_reducible refine Kd.C_drew ?_)))
       (case side2 => exact (Kd.R_reads' HO431.out).2.1)
       (case side3 => repeat (first | exact (Kd.R_reads' HO435.out).2.2 | (with_reducible refine Kd.C_alloc ?_ _) | (with_reducible refine Kd.C_drewN ?_ _) | (with_reducible refine Kd.C_drew ?_)))
       (case side4 => exact (Kd.R_reads' HO435.out).2.1)
       rintro e w64 ⟨v438, rfl, ho0, hb⟩
       refine ⟨_, rfl, ?_⟩
       have HO439 := Aside0.mk (Kd.R_lower (Kd.R_new' (Kd.R_new' ho0 (Kd.R_lt (rk HO431.out))) (Kd.R_lt (rk HO435.out))) (below_size (bks HB.out)))
       replace HO431 := re HO431 ho0 hb
       replace HO435 := re HO435 ho0 hb
       replace BK424 := bb BK424 hb
       replace BK425 := bb BK425 hb
       replace HB := hs HB hb
       (try clear hb ho0)
       refine hK.out _ _ ⟨(blk_cell BK424.out 0).trans rfl, (blk_cell BK424.out 1).trans rfl, (blk_cell BK425.out 0).trans rfl, (blk_cell BK425.out 1).trans rfl⟩ (fun hHeld => ?_)
       clear hK K
       refine nm ?_
       refine pu 5 (some 27) HT_ ?_
       refine pu 6 (some 33) HT_ ?_
       refine pu 7 (some 34) HT_ ?_
       refine on 8 (some 6) HT_ (fun K hK => ?_)
       refine bs 6 #[.int .i64 0, .slice none 0 0] 29 (fun gb441 hg w65 hbox hb => ?_)
       have BK441 := Aside0.mk hbox
       have GW441 := ge HB hg
       have GE441 := GW441
       obtain ⟨NB424_441, NB441_424⟩ := nb BK424 hg
       obtain ⟨NB425_441, NB441_425⟩ := nb BK425 hg
       replace HO431 := rb HO431 hb
       replace HO435 := rb HO435 hb
       replace HO439 := rb HO439 hb
       replace BK424 := bb BK424 hb
       replace BK425 := bb BK425 hb
       replace HB := hs HB hb
       clear hb hbox hg
       refine hK.out _ _ ⟨(blk_cell BK424.out 0).trans rfl, (blk_cell BK424.out 1).trans rfl, (blk_cell BK425.out 0).trans rfl, (blk_cell BK425.out 1).trans rfl⟩ (fun hHeld => ?_)
       clear hK K
       refine nm ?_
       exact np (hCont (.slice Ao62 t429.length co62, .slice Ao63 t433.length co63, v438, gb441) _ ⟨hHeld, (rk (Kd.R_mono HO431.out (fun _ hk => ⟨hk.1.2, hk.2⟩))), (rk (Kd.R_mono HO435.out (fun _ hk => ⟨hk.1.2, hk.2⟩))), (rk (Kd.R_mono HO439.out (fun _ hk => ⟨hk.1.2, hk.2⟩))), (pk BK424.out), (pk BK425.out), (pk BK441.out), GW441.out, GE441.out, NB424_441.out, NB441_424.out, NB425_441.out, NB441_425.out, (bks HB.out)⟩)
      ·skip
       refine bs 6 #[.int .i64 0, .slice none 0 0] 29 (fun gb441 hg w62 hbox hb => ?_)
       have BK441 := Aside0.mk hbox
       have GW441 := ge HB hg
       have GE441 := GW441
       obtain ⟨NB424_441, NB441_424⟩ := nb BK424 hg
       obtain ⟨NB425_441, NB441_425⟩ := nb BK425 hg
       replace HO431 := rb HO431 hb
       replace HO435 := rb HO435 hb
       replace BK424 := bb BK424 hb
       replace BK425 := bb BK425 hb
       replace HB := hs HB hb
       clear hb hbox hg
       obtain ⟨Ao63, co63, eo63⟩ := Kd.R_slice HO431.out
       (first | subst eo63 | (injection eo63 with f1_ f2_ f3_; have f4_ := f1_.symm; have f5_ := f3_.symm; clear f1_ f2_ f3_; subst f4_; subst f5_))
       obtain ⟨Ao64, co64, eo64⟩ := Kd.R_slice HO435.out
       (first | subst eo64 | (injection eo64 with f1_ f2_ f3_; have f4_ := f1_.symm; have f5_ := f3_.symm; clear f1_ f2_ f3_; subst f4_; subst f5_))
       refine hK.out _ _ ⟨(blk_cell BK424.out 0).trans rfl, (blk_cell BK424.out 1).trans rfl, (blk_cell BK425.out 0).trans rfl, (blk_cell BK425.out 1).trans rfl⟩ (fun hHeld => ?_)
       clear hK K
       refine nm ?_
       refine on 4 (some 32) HT_ (fun K hK => ?_)
       refine gs Try.func13 #[.agg #[.int .i64 t428, .slice Ao63 t429.length co63], .agg #[.int .i64 t432, .slice Ao64 t433.length co64]] ?_
       with_reducible refine (spec_ActOnCyclo.calls k t428 _ _ t429 t432 _ _ t433 t436 t437 t440 _ ?side1 ?side2 ?side3 ?side4 A21.out).mono ?_
       (case side1 => repeat (first | exact (Kd.R_reads' HO431.out).2.2 | (with_reducible refine Kd.C_alloc ?_ _) | (with_reducible refine Kd.C_drewN ?_ _) | (with_reducible refine Kd.C_drew ?_)))
       (case side2 => exact (Kd.R_reads' HO431.out).2.1)
       (case side3 => repeat (first | exact (Kd.R_reads' HO435.out).2.2 | (with_reducible refine Kd.C_alloc ?_ _) | (with_reducible refine Kd.C_drewN ?_ _) | (with_reducible refine Kd.C_drew ?_)))
       (case side4 => exact (Kd.R_reads' HO435.out).2.1)
       rintro e w65 ⟨v438, rfl, ho0, hb⟩
       refine ⟨_, rfl, ?_⟩
       have HO439 := Aside0.mk (Kd.R_lower (Kd.R_new' (Kd.R_new' ho0 (Kd.R_lt (rk HO431.out))) (Kd.R_lt (rk HO435.out))) (below_size (bks HB.out)))
       replace HO431 := re HO431 ho0 hb
       replace HO435 := re HO435 ho0 hb
       replace BK424 := bb BK424 hb
       replace BK425 := bb BK425 hb
       replace BK441 := bb BK441 hb
       replace HB := hs HB hb
       (try clear hb ho0)
       refine hK.out _ _ ⟨(blk_cell BK424.out 0).trans rfl, (blk_cell BK424.out 1).trans rfl, (blk_cell BK425.out 0).trans rfl, (blk_cell BK425.out 1).trans rfl⟩ (fun hHeld => ?_)
       clear hK K
       refine nm ?_
       refine pu 5 (some 27) HT_ ?_
       refine pu 6 (some 33) HT_ ?_
       refine pu 7 (some 34) HT_ ?_
       exact np (hCont (.slice Ao63 t429.length co63, .slice Ao64 t433.length co64, v438, gb441) _ ⟨hHeld, (rk (Kd.R_mono HO431.out (fun _ hk => ⟨hk.1.2, hk.2⟩))), (rk (Kd.R_mono HO435.out (fun _ hk => ⟨hk.1.2, hk.2⟩))), (rk (Kd.R_mono HO439.out (fun _ hk => ⟨hk.1.2, hk.2⟩))), (pk BK424.out), (pk BK425.out), (pk BK441.out), GW441.out, GE441.out, NB424_441.out, NB441_424.out, NB425_441.out, NB441_425.out, (bks HB.out)⟩)
     ·skip
      refine bs 6 #[.int .i64 0, .slice none 0 0] 29 (fun gb441 hg w61 hbox hb => ?_)
      have BK441 := Aside0.mk hbox
      have GW441 := ge HB hg
      have GE441 := GW441
      obtain ⟨NB424_441, NB441_424⟩ := nb BK424 hg
      obtain ⟨NB425_441, NB441_425⟩ := nb BK425 hg
      replace HO431 := rb HO431 hb
      replace BK424 := bb BK424 hb
      replace BK425 := bb BK425 hb
      replace HB := hs HB hb
      clear hb hbox hg
      refine hK.out _ _ ⟨(blk_cell BK424.out 0).trans rfl, (blk_cell BK424.out 1).trans rfl, (blk_cell BK425.out 0).trans rfl, (blk_cell BK425.out 1).trans rfl⟩ (fun hHeld => ?_)
      clear hK K
      refine nm ?_
      refine on 3 (some 31) HT_ (fun K hK => ?_)
      refine gs Try.func15 #[.agg #[.int .i64 a1_0, .slice A1_1 l1_1.length c1_1]] ?_
      with_reducible refine (laws_toCyclo.calls k a1_0 _ _ l1_1 t432 t433 _ ?side1 ?side2 A20.out).mono ?_
      (case side1 => repeat (first | exact (Kd.C_below HR1_1.out HB.out) | (with_reducible refine Kd.C_alloc ?_ _) | (with_reducible refine Kd.C_drewN ?_ _) | (with_reducible refine Kd.C_drew ?_)))
      (case side2 => exact HC1_1.out)
      rintro e w62 ⟨v434, rfl, ho0, hb⟩
      refine ⟨_, rfl, ?_⟩
      have HO435 := Aside0.mk (Kd.R_lower (Kd.R_new' ho0 (Kd.R_lt (rk HO431.out))) (below_size (bks HB.out)))
      replace HO431 := re HO431 ho0 hb
      replace BK424 := bb BK424 hb
      replace BK425 := bb BK425 hb
      replace BK441 := bb BK441 hb
      replace HB := hs HB hb
      (try clear hb ho0)
      obtain ⟨Ao63, co63, eo63⟩ := Kd.R_slice HO431.out
      (first | subst eo63 | (injection eo63 with f1_ f2_ f3_; have f4_ := f1_.symm; have f5_ := f3_.symm; clear f1_ f2_ f3_; subst f4_; subst f5_))
      obtain ⟨Ao64, co64, eo64⟩ := Kd.R_slice HO435.out
      (first | subst eo64 | (injection eo64 with f1_ f2_ f3_; have f4_ := f1_.symm; have f5_ := f3_.symm; clear f1_ f2_ f3_; subst f4_; subst f5_))
      refine hK.out _ _ ⟨(blk_cell BK424.out 0).trans rfl, (blk_cell BK424.out 1).trans rfl, (blk_cell BK425.out 0).trans rfl, (blk_cell BK425.out 1).trans rfl⟩ (fun hHeld => ?_)
      clear hK K
      refine nm ?_
      refine on 4 (some 32) HT_ (fun K hK => ?_)
      refine gs Try.func13 #[.agg #[.int .i64 t428, .slice Ao63 t429.length co63], .agg #[.int .i64 t432, .slice Ao64 t433.length co64]] ?_
      with_reducible refine (spec_ActOnCyclo.calls k t428 _ _ t429 t432 _ _ t433 t436 t437 t440 _ ?side1 ?side2 ?side3 ?side4 A21.out).mono ?_
      (case side1 => repeat (first | exact (Kd.R_reads' HO431.out).2.2 | (with_reducible refine Kd.C_alloc ?_ _) | (with_reducible refine Kd.C_drewN ?_ _) | (with_reducible refine Kd.C_drew ?_)))
      (case side2 => exact (Kd.R_reads' HO431.out).2.1)
      (case side3 => repeat (first | exact (Kd.R_reads' HO435.out).2.2 | (with_reducible refine Kd.C_alloc ?_ _) | (with_reducible refine Kd.C_drewN ?_ _) | (with_reducible refine Kd.C_drew ?_)))
      (case side4 => exact (Kd.R_reads' HO435.out).2.1)
      rintro e w65 ⟨v438, rfl, ho0, hb⟩
      refine ⟨_, rfl, ?_⟩
      have HO439 := Aside0.mk (Kd.R_lower (Kd.R_new' (Kd.R_new' ho0 (Kd.R_lt (rk HO431.out))) (Kd.R_lt (rk HO435.out))) (below_size (bks HB.out)))
      replace HO431 := re HO431 ho0 hb
      replace HO435 := re HO435 ho0 hb
      replace BK424 := bb BK424 hb
      replace BK425 := bb BK425 hb
      replace BK441 := bb BK441 hb
      replace HB := hs HB hb
      (try clear hb ho0)
      refine hK.out _ _ ⟨(blk_cell BK424.out 0).trans rfl, (blk_cell BK424.out 1).trans rfl, (blk_cell BK425.out 0).trans rfl, (blk_cell BK425.out 1).trans rfl⟩ (fun hHeld => ?_)
      clear hK K
      refine nm ?_
      refine pu 5 (some 27) HT_ ?_
      refine pu 6 (some 33) HT_ ?_
      refine pu 7 (some 34) HT_ ?_
      exact np (hCont (.slice Ao63 t429.length co63, .slice Ao64 t433.length co64, v438, gb441) _ ⟨hHeld, (rk (Kd.R_mono HO431.out (fun _ hk => ⟨hk.1.2, hk.2⟩))), (rk (Kd.R_mono HO435.out (fun _ hk => ⟨hk.1.2, hk.2⟩))), (rk (Kd.R_mono HO439.out (fun _ hk => ⟨hk.1.2, hk.2⟩))), (pk BK424.out), (pk BK425.out), (pk BK441.out), GW441.out, GE441.out, NB424_441.out, NB441_424.out, NB425_441.out, NB441_425.out, (bks HB.out)⟩)
    ·skip
     refine bs 6 #[.int .i64 0, .slice none 0 0] 29 (fun gb441 hg w60 hbox hb => ?_)
     have BK441 := Aside0.mk hbox
     have GW441 := ge HB hg
     have GE441 := GW441
     obtain ⟨NB424_441, NB441_424⟩ := nb BK424 hg
     obtain ⟨NB425_441, NB441_425⟩ := nb BK425 hg
     replace BK424 := bb BK424 hb
     replace BK425 := bb BK425 hb
     replace HB := hs HB hb
     clear hb hbox hg
     refine hK.out _ _ ⟨(blk_cell BK424.out 0).trans rfl, (blk_cell BK424.out 1).trans rfl, (blk_cell BK425.out 0).trans rfl, (blk_cell BK425.out 1).trans rfl⟩ (fun hHeld => ?_)
     clear hK K
     refine nm ?_
     refine on 1 (some 29) HT_ (fun K hK => ?_)
     refine gs Try.func14 #[.agg #[.int .i64 a0_0, .slice A0_1 l0_1.length c0_1]] ?_
     with_reducible refine (laws_toRing.calls k a0_0 _ _ l0_1 t428 t429 _ ?side1 ?side2 A19.out).mono ?_
     (case side1 => repeat (first | exact (Kd.C_below HR0_1.out HB.out) | (with_reducible refine Kd.C_alloc ?_ _) | (with_reducible refine Kd.C_drewN ?_ _) | (with_reducible refine Kd.C_drew ?_)))
     (case side2 => exact HC0_1.out)
     rintro e w61 ⟨v430, rfl, ho0, hb⟩
     refine ⟨_, rfl, ?_⟩
     have HO431 := Aside0.mk (Kd.R_lower ho0 (below_size (bks HB.out)))
     replace BK424 := bb BK424 hb
     replace BK425 := bb BK425 hb
     replace BK441 := bb BK441 hb
     replace HB := hs HB hb
     (try clear hb ho0)
     refine hK.out _ _ ⟨(blk_cell BK424.out 0).trans rfl, (blk_cell BK424.out 1).trans rfl, (blk_cell BK425.out 0).trans rfl, (blk_cell BK425.out 1).trans rfl⟩ (fun hHeld => ?_)
     clear hK K
     refine nm ?_
     refine on 3 (some 31) HT_ (fun K hK => ?_)
     refine gs Try.func15 #[.agg #[.int .i64 a1_0, .slice A1_1 l1_1.length c1_1]] ?_
     with_reducible refine (laws_toCyclo.calls k a1_0 _ _ l1_1 t432 t433 _ ?side1 ?side2 A20.out).mono ?_
     (case side1 => repeat (first | exact (Kd.C_below HR1_1.out HB.out) | (with_reducible refine Kd.C_alloc ?_ _) | (with_reducible refine Kd.C_drewN ?_ _) | (with_reducible refine Kd.C_drew ?_)))
     (case side2 => exact HC1_1.out)
     rintro e w62 ⟨v434, rfl, ho0, hb⟩
     refine ⟨_, rfl, ?_⟩
     have HO435 := Aside0.mk (Kd.R_lower (Kd.R_new' ho0 (Kd.R_lt (rk HO431.out))) (below_size (bks HB.out)))
     replace HO431 := re HO431 ho0 hb
     replace BK424 := bb BK424 hb
     replace BK425 := bb BK425 hb
     replace BK441 := bb BK441 hb
     replace HB := hs HB hb
     (try clear hb ho0)
     obtain ⟨Ao63, co63, eo63⟩ := Kd.R_slice HO431.out
     (first | subst eo63 | (injection eo63 with f1_ f2_ f3_; have f4_ := f1_.symm; have f5_ := f3_.symm; clear f1_ f2_ f3_; subst f4_; subst f5_))
     obtain ⟨Ao64, co64, eo64⟩ := Kd.R_slice HO435.out
     (first | subst eo64 | (injection eo64 with f1_ f2_ f3_; have f4_ := f1_.symm; have f5_ := f3_.symm; clear f1_ f2_ f3_; subst f4_; subst f5_))
     refine hK.out _ _ ⟨(blk_cell BK424.out 0).trans rfl, (blk_cell BK424.out 1).trans rfl, (blk_cell BK425.out 0).trans rfl, (blk_cell BK425.out 1).trans rfl⟩ (fun hHeld => ?_)
     clear hK K
     refine nm ?_
     refine on 4 (some 32) HT_ (fun K hK => ?_)
     refine gs Try.func13 #[.agg #[.int .i64 t428, .slice Ao63 t429.length co63], .agg #[.int .i64 t432, .slice Ao64 t433.length co64]] ?_
     with_reducible refine (spec_ActOnCyclo.calls k t428 _ _ t429 t432 _ _ t433 t436 t437 t440 _ ?side1 ?side2 ?side3 ?side4 A21.out).mono ?_
     (case side1 => repeat (first | exact (Kd.R_reads' HO431.out).2.2 | (with_reducible refine Kd.C_alloc ?_ _) | (with_reducible refine Kd.C_drewN ?_ _) | (with_reducible refine Kd.C_drew ?_)))
     (case side2 => exact (Kd.R_reads' HO431.out).2.1)
     (case side3 => repeat (first | exact (Kd.R_reads' HO435.out).2.2 | (with_reducible refine Kd.C_alloc ?_ _) | (with_reducible refine Kd.C_drewN ?_ _) | (with_reducible refine Kd.C_drew ?_)))
     (case side4 => exact (Kd.R_reads' HO435.out).2.1)
     rintro e w65 ⟨v438, rfl, ho0, hb⟩
     refine ⟨_, rfl, ?_⟩
     have HO439 := Aside0.mk (Kd.R_lower (Kd.R_new' (Kd.R_new' ho0 (Kd.R_lt (rk HO431.out))) (Kd.R_lt (rk HO435.out))) (below_size (bks HB.out)))
     replace HO431 := re HO431 ho0 hb
     replace HO435 := re HO435 ho0 hb
     replace BK424 := bb BK424 hb
     replace BK425 := bb BK425 hb
     replace BK441 := bb BK441 hb
     replace HB := hs HB hb
     (try clear hb ho0)
     refine hK.out _ _ ⟨(blk_cell BK424.out 0).trans rfl, (blk_cell BK424.out 1).trans rfl, (blk_cell BK425.out 0).trans rfl, (blk_cell BK425.out 1).trans rfl⟩ (fun hHeld => ?_)
     clear hK K
     refine nm ?_
     refine pu 5 (some 27) HT_ ?_
     refine pu 6 (some 33) HT_ ?_
     refine pu 7 (some 34) HT_ ?_
     exact np (hCont (.slice Ao63 t429.length co63, .slice Ao64 t433.length co64, v438, gb441) _ ⟨hHeld, (rk (Kd.R_mono HO431.out (fun _ hk => ⟨hk.1.2, hk.2⟩))), (rk (Kd.R_mono HO435.out (fun _ hk => ⟨hk.1.2, hk.2⟩))), (rk (Kd.R_mono HO439.out (fun _ hk => ⟨hk.1.2, hk.2⟩))), (pk BK424.out), (pk BK425.out), (pk BK441.out), GW441.out, GE441.out, NB424_441.out, NB441_424.out, NB425_441.out, NB441_425.out, (bks HB.out)⟩)
   rintro ⟨v430, v434, v438, gb441⟩ w66 ⟨hS_, h0_, h1_, h2_, h3_, h4_, h5_, h6_, h7_, h8_, h9_, h10_, h11_, h12_⟩
   try dsimp only at h0_ h1_ h2_ h3_ h4_ h5_ h6_ h7_ h8_ h9_ h10_ h11_ h12_
   have HO431 := Aside0.mk h0_
   have HO435 := Aside0.mk h1_
   have HO439 := Aside0.mk h2_
   have BK441 := Aside0.mk h5_
   have GW441 := Aside0.mk h6_
   have GE441 := Aside0.mk h7_
   have NB424_441 := Aside0.mk h8_
   have NB441_424 := Aside0.mk h9_
   have NB425_441 := Aside0.mk h10_
   have NB441_425 := Aside0.mk h11_
   replace BK424 := Aside0.mk h3_
   replace BK425 := Aside0.mk h4_
   replace HB := Aside0.mk h12_
   clear h0_ h1_ h2_ h3_ h4_ h5_ h6_ h7_ h8_ h9_ h10_ h11_ h12_
   have hHeld : w66.cell? ⟨gb424, 0, none⟩ = some (.int .i64 a0_0) ∧ w66.cell? ⟨gb424, 1, none⟩ = some (.slice A0_1 l0_1.length c0_1) ∧ w66.cell? ⟨gb425, 0, none⟩ = some (.int .i64 a1_0) ∧ w66.cell? ⟨gb425, 1, none⟩ = some (.slice A1_1 l1_1.length c1_1) := hS_
   obtain ⟨Ao68, co68, eo68⟩ := Kd.R_slice HO439.out
   (first | subst eo68 | (injection eo68 with f1_ f2_ f3_; have f4_ := f1_.symm; have f5_ := f3_.symm; clear f1_ f2_ f3_; subst f4_; subst f5_))
   refine norm_ (a' := ?_) ?_ ?_
   rotate_left
   ·simp only [putAll, Act.put, List.setIfInBounds_toArray, List.set_cons_zero, List.set_cons_succ]
    rfl
   refine on 9 none HT_ (fun K hK => ?_)
   have hs67 : w66.cell? ⟨gb441, 0, none⟩ = some (.int .i64 0) := (blk_cell BK441.out 0).trans rfl
   have hfs67 := blk_frozen BK441.out 0
   have hns67_0 := NB424_441.out
   have hns67_1 := NB425_441.out
   have hms67_0 := NB441_424.out
   have hms67_1 := NB441_425.out
   have hs69 : w66.cell? ⟨gb441, 1, none⟩ = some (.slice none 0 0) := (blk_cell BK441.out 1).trans rfl
   have hfs69 := blk_frozen BK441.out 1
   have hns69_0 := NB424_441.out
   have hns69_1 := NB425_441.out
   have hms69_0 := NB441_424.out
   have hms69_1 := NB441_425.out
   refine skip_ (w1 := ?_) (by rfl) rfl ?_ ?_
   rotate_left
   ·go_simp
    rfl
   refine hK.out _ _ ⟨((cell_far (p := ⟨gb441, _, none⟩) NB424_441.out _).trans (((cell_far (p := ⟨gb441, _, none⟩) NB424_441.out _).trans (hHeld.1)))), ((cell_far (p := ⟨gb441, _, none⟩) NB424_441.out _).trans (((cell_far (p := ⟨gb441, _, none⟩) NB424_441.out _).trans (hHeld.2.1)))), ((cell_far (p := ⟨gb441, _, none⟩) NB425_441.out _).trans (((cell_far (p := ⟨gb441, _, none⟩) NB425_441.out _).trans (hHeld.2.2.1)))), ((cell_far (p := ⟨gb441, _, none⟩) NB425_441.out _).trans (((cell_far (p := ⟨gb441, _, none⟩) NB425_441.out _).trans (hHeld.2.2.2))))⟩ (fun hHeld => ?_)
   clear hK K
   refine pu 10 (some 7) HT_ ?_
   refine done_ (done_of HT_.out (by kernel_rfl)) ?_
   have hnb70 := NB424_441.out
   have hnc70 := NB441_424.out
   have hcz71_0 : w66.cell? ⟨gb424, 0, none⟩ = some (.int .i64 a0_0) := (blk_cell BK424.out 0).trans rfl
   have hcz71_1 : w66.cell? ⟨gb424, 1, none⟩ = some (.slice A0_1 l0_1.length c0_1) := (blk_cell BK424.out 1).trans rfl
   have hfz71_0 := blk_frozen BK424.out 0
   have hfz71_1 := blk_frozen BK424.out 1
   try go_wp2_with (first | ((with_reducible refine gate_callee (f := 14) rfl ?_); refine gl (some 36) Try.func14 #[.agg #[.int .i64 a0_0, .slice A0_1 l0_1.length c0_1]] ?_; (with_reducible refine (laws_toRing.calls k a0_0 _ _ l0_1 t442 t443 _ ?side1 ?side2 A22.out).mono ?_); (case side1 => exact Kd.C_below HR0_1.out (bks HB.out)); (case side2 => exact HC0_1.out); rintro e w72 ⟨v444, rfl, ho0, hb⟩; refine ⟨_, rfl, ?_⟩; have HO445 := Aside0.mk (Kd.R_lower (Kd.R_new' (Kd.R_new' (Kd.R_new' ho0 (Kd.R_lt (rx HO431))) (Kd.R_lt (rx HO435))) (Kd.R_lt (rx HO439))) (below_size (bks HB.out))); replace HO431 := re HO431 ho0 hb; replace HO435 := re HO435 ho0 hb; replace HO439 := re HO439 ho0 hb; replace BK424 := bb BK424 hb; replace BK425 := bb BK425 hb; replace BK441 := Aside0.mk (blk_below (g := gb441) (o := .cells #[.int .i64 t436, .slice Ao68 t437.length co68] 29 (0, 0)) (by (with_reducible repeat (first | refine blk_drewN ?_ _ | refine blk_drew ?_ | refine blk_alloc ?_ _)); refine blk_put (cs := #[.int .i64 t436, .slice none 0 0]) ?_ 1 _ rfl; (with_reducible repeat (first | refine blk_drewN ?_ _ | refine blk_drew ?_ | refine blk_alloc ?_ _)); refine blk_put (cs := #[.int .i64 0, .slice none 0 0]) ?_ 0 _ rfl; (with_reducible repeat (first | refine blk_drewN ?_ _ | refine blk_drew ?_ | refine blk_alloc ?_ _)); exact BK441.out) hb); replace HB := hs HB hb; (try clear hb ho0)) | ((with_reducible refine gate_dst (N := 8) rfl ?_); refine bx 8 #[.int .i64 0, .slice none 0 0] 32 (fun gb446 hg w73 hbox hb => ?_); have BK446 := Aside0.mk hbox; have GW446 := ge HB hg; have GE446 := GW446; obtain ⟨NB424_446, NB446_424⟩ := nb BK424 hg; obtain ⟨NB425_446, NB446_425⟩ := nb BK425 hg; obtain ⟨NB441_446, NB446_441⟩ := nb BK441 hg; replace HO431 := rb HO431 hb; replace HO435 := rb HO435 hb; replace HO439 := rb HO439 hb; replace HO445 := rb HO445 hb; replace BK424 := bb BK424 hb; replace BK425 := bb BK425 hb; replace BK441 := bb BK441 hb; replace HB := hs HB hb; clear hb hbox hg; have hnb74 := NB446_424.out; have hnc74 := NB424_446.out; have hnb75 := NB446_425.out; have hnc75 := NB425_446.out; have hnb76 := NB446_441.out; have hnc76 := NB441_446.out; have hcz77_0 : w73.cell? ⟨gb446, 0, none⟩ = some (.int .i64 0) := (blk_cell BK446.out 0).trans rfl; have hcz77_1 : w73.cell? ⟨gb446, 1, none⟩ = some (.slice none 0 0) := (blk_cell BK446.out 1).trans rfl; have hfz77_0 := blk_frozen BK446.out 0; have hfz77_1 := blk_frozen BK446.out 1; obtain ⟨Ao78, co78, eo78⟩ := Kd.R_slice HO445.out; subst eo78; have hnb79 := NB425_441.out; have hnc79 := NB441_425.out; have hcz80_0 : w73.cell? ⟨gb425, 0, none⟩ = some (.int .i64 a1_0) := (blk_cell BK425.out 0).trans rfl; have hcz80_1 : w73.cell? ⟨gb425, 1, none⟩ = some (.slice A1_1 l1_1.length c1_1) := (blk_cell BK425.out 1).trans rfl; have hfz80_0 := blk_frozen BK425.out 0; have hfz80_1 := blk_frozen BK425.out 1) | ((with_reducible refine gate_callee (f := 15) rfl ?_); refine gl (some 38) Try.func15 #[.agg #[.int .i64 a1_0, .slice A1_1 l1_1.length c1_1]] ?_; (with_reducible refine (laws_toCyclo.calls k a1_0 _ _ l1_1 t447 t448 _ ?side1 ?side2 A23.out).mono ?_); (case side1 => exact Kd.C_below HR1_1.out (bks HB.out)); (case side2 => exact HC1_1.out); rintro e w81 ⟨v449, rfl, ho0, hb⟩; refine ⟨_, rfl, ?_⟩; have HO450 := Aside0.mk (Kd.R_lower (Kd.R_new' (Kd.R_new' (Kd.R_new' (Kd.R_new' ho0 (Kd.R_lt (rx HO431))) (Kd.R_lt (rx HO435))) (Kd.R_lt (rx HO439))) (Kd.R_lt (rx HO445))) (below_size (bks HB.out))); replace HO431 := re HO431 ho0 hb; replace HO435 := re HO435 ho0 hb; replace HO439 := re HO439 ho0 hb; replace HO445 := re HO445 ho0 hb; replace BK424 := bb BK424 hb; replace BK425 := bb BK425 hb; replace BK441 := bb BK441 hb; replace BK446 := Aside0.mk (blk_below (g := gb446) (o := .cells #[.int .i64 t442, .slice Ao78 t443.length co78] 32 (0, 0)) (by (with_reducible repeat (first | refine blk_drewN ?_ _ | refine blk_drew ?_ | refine blk_alloc ?_ _)); refine blk_put (cs := #[.int .i64 t442, .slice none 0 0]) ?_ 1 _ rfl; (with_reducible repeat (first | refine blk_drewN ?_ _ | refine blk_drew ?_ | refine blk_alloc ?_ _)); refine blk_put (cs := #[.int .i64 0, .slice none 0 0]) ?_ 0 _ rfl; (with_reducible repeat (first | refine blk_drewN ?_ _ | refine blk_drew ?_ | refine blk_alloc ?_ _)); exact BK446.out) hb); replace HB := hs HB hb; (try clear hb ho0)) | ((with_reducible refine gate_dst (N := 9) rfl ?_); refine bx 9 #[.int .i64 0, .slice none 0 0] 29 (fun gb451 hg w82 hbox hb => ?_); have BK451 := Aside0.mk hbox; have GW451 := ge HB hg; have GE451 := GW451; obtain ⟨NB424_451, NB451_424⟩ := nb BK424 hg; obtain ⟨NB425_451, NB451_425⟩ := nb BK425 hg; obtain ⟨NB441_451, NB451_441⟩ := nb BK441 hg; obtain ⟨NB446_451, NB451_446⟩ := nb BK446 hg; replace HO431 := rb HO431 hb; replace HO435 := rb HO435 hb; replace HO439 := rb HO439 hb; replace HO445 := rb HO445 hb; replace HO450 := rb HO450 hb; replace BK424 := bb BK424 hb; replace BK425 := bb BK425 hb; replace BK441 := bb BK441 hb; replace BK446 := bb BK446 hb; replace HB := hs HB hb; clear hb hbox hg; have hnb83 := NB451_424.out; have hnc83 := NB424_451.out; have hnb84 := NB451_425.out; have hnc84 := NB425_451.out; have hnb85 := NB451_441.out; have hnc85 := NB441_451.out; have hnb86 := NB451_446.out; have hnc86 := NB446_451.out; have hcz87_0 : w82.cell? ⟨gb451, 0, none⟩ = some (.int .i64 0) := (blk_cell BK451.out 0).trans rfl; have hcz87_1 : w82.cell? ⟨gb451, 1, none⟩ = some (.slice none 0 0) := (blk_cell BK451.out 1).trans rfl; have hfz87_0 := blk_frozen BK451.out 0; have hfz87_1 := blk_frozen BK451.out 1; obtain ⟨Ao88, co88, eo88⟩ := Kd.R_slice HO450.out; subst eo88; have hcz89_0 : w82.cell? ⟨gb446, 0, none⟩ = some (.int .i64 t442) := (blk_cell BK446.out 0).trans rfl; have hcz89_1 : w82.cell? ⟨gb446, 1, none⟩ = some (.slice Ao78 t443.length co78) := (blk_cell BK446.out 1).trans rfl; have hfz89_0 := blk_frozen BK446.out 0; have hfz89_1 := blk_frozen BK446.out 1) | ((with_reducible refine gate_callee (f := 16) rfl ?_); refine gl (some 42) Try.func16 #[.agg #[.int .i64 t442, .slice Ao78 t443.length co78], .agg #[.int .i64 t447, .slice Ao88 t448.length co88]] ?_; (with_reducible refine (impl_ActOnCyclo.calls k t442 _ _ t443 t447 _ _ t448 t452 t453 t456 _ ?side1 ?side2 ?side3 ?side4 A24.out).mono ?_); (case side1 => exact (Kd.R_reads' (rx HO445)).2.2); (case side2 => exact (Kd.R_reads' HO445.out).2.1); (case side3 => exact (Kd.R_reads' (rx HO450)).2.2); (case side4 => exact (Kd.R_reads' HO450.out).2.1); rintro e w90 ⟨v454, rfl, ho0, hb⟩; refine ⟨_, rfl, ?_⟩; have HO455 := Aside0.mk (Kd.R_lower (Kd.R_new' (Kd.R_new' (Kd.R_new' (Kd.R_new' (Kd.R_new' ho0 (Kd.R_lt (rx HO431))) (Kd.R_lt (rx HO435))) (Kd.R_lt (rx HO439))) (Kd.R_lt (rx HO445))) (Kd.R_lt (rx HO450))) (below_size (bks HB.out))); replace HO431 := re HO431 ho0 hb; replace HO435 := re HO435 ho0 hb; replace HO439 := re HO439 ho0 hb; replace HO445 := re HO445 ho0 hb; replace HO450 := re HO450 ho0 hb; replace BK424 := bb BK424 hb; replace BK425 := bb BK425 hb; replace BK441 := bb BK441 hb; replace BK446 := bb BK446 hb; replace BK451 := Aside0.mk (blk_below (g := gb451) (o := .cells #[.int .i64 t447, .slice Ao88 t448.length co88] 29 (0, 0)) (by (with_reducible repeat (first | refine blk_drewN ?_ _ | refine blk_drew ?_ | refine blk_alloc ?_ _)); refine blk_put (cs := #[.int .i64 t447, .slice none 0 0]) ?_ 1 _ rfl; (with_reducible repeat (first | refine blk_drewN ?_ _ | refine blk_drew ?_ | refine blk_alloc ?_ _)); refine blk_put (cs := #[.int .i64 0, .slice none 0 0]) ?_ 0 _ rfl; (with_reducible repeat (first | refine blk_drewN ?_ _ | refine blk_drew ?_ | refine blk_alloc ?_ _)); exact BK451.out) hb); replace HB := hs HB hb; (try clear hb ho0)) | ((with_reducible refine gate_dst (N := 10) rfl ?_); refine bx 10 #[.int .i64 0, .slice none 0 0] 29 (fun gb457 hg w91 hbox hb => ?_); have BK457 := Aside0.mk hbox; have GW457 := ge HB hg; have GE457 := GW457; obtain ⟨NB424_457, NB457_424⟩ := nb BK424 hg; obtain ⟨NB425_457, NB457_425⟩ := nb BK425 hg; obtain ⟨NB441_457, NB457_441⟩ := nb BK441 hg; obtain ⟨NB446_457, NB457_446⟩ := nb BK446 hg; obtain ⟨NB451_457, NB457_451⟩ := nb BK451 hg; replace HO431 := rb HO431 hb; replace HO435 := rb HO435 hb; replace HO439 := rb HO439 hb; replace HO445 := rb HO445 hb; replace HO450 := rb HO450 hb; replace HO455 := rb HO455 hb; replace BK424 := bb BK424 hb; replace BK425 := bb BK425 hb; replace BK441 := bb BK441 hb; replace BK446 := bb BK446 hb; replace BK451 := bb BK451 hb; replace HB := hs HB hb; clear hb hbox hg; have hnb92 := NB457_424.out; have hnc92 := NB424_457.out; have hnb93 := NB457_425.out; have hnc93 := NB425_457.out; have hnb94 := NB457_441.out; have hnc94 := NB441_457.out; have hnb95 := NB457_446.out; have hnc95 := NB446_457.out; have hnb96 := NB457_451.out; have hnc96 := NB451_457.out; have hcz97_0 : w91.cell? ⟨gb457, 0, none⟩ = some (.int .i64 0) := (blk_cell BK457.out 0).trans rfl; have hcz97_1 : w91.cell? ⟨gb457, 1, none⟩ = some (.slice none 0 0) := (blk_cell BK457.out 1).trans rfl; have hfz97_0 := blk_frozen BK457.out 0; have hfz97_1 := blk_frozen BK457.out 1; obtain ⟨Ao98, co98, eo98⟩ := Kd.R_slice HO455.out; subst eo98; have hcz99_0 : w91.cell? ⟨gb441, 0, none⟩ = some (.int .i64 t436) := (blk_cell BK441.out 0).trans rfl; have hcz99_1 : w91.cell? ⟨gb441, 1, none⟩ = some (.slice Ao68 t437.length co68) := (blk_cell BK441.out 1).trans rfl; have hfz99_0 := blk_frozen BK441.out 0; have hfz99_1 := blk_frozen BK441.out 1) | ((with_reducible refine gate_callee (f := 17) rfl ?_); refine gl (some 47) Try.func17 #[.agg #[.int .i64 t452, .slice Ao98 t453.length co98], .agg #[.int .i64 t436, .slice Ao68 t437.length co68]] ?_; (with_reducible refine (laws_eqCyclo.calls k t452 _ _ t453 t436 _ _ t437 true _ ?side1 ?side2 ?side3 ?side4 A25.out).mono ?_); (case side1 => exact (Kd.R_reads' (rx HO455)).2.2); (case side2 => exact (Kd.R_reads' HO455.out).2.1); (case side3 => exact (Kd.R_reads' (rx HO439)).2.2); (case side4 => exact (Kd.R_reads' HO439.out).2.1); rintro e w100 ⟨rfl, hb⟩; refine ⟨_, rfl, ?_⟩; replace HO431 := rb HO431 hb; replace HO435 := rb HO435 hb; replace HO439 := rb HO439 hb; replace HO445 := rb HO445 hb; replace HO450 := rb HO450 hb; replace HO455 := rb HO455 hb; replace BK424 := bb BK424 hb; replace BK425 := bb BK425 hb; replace BK441 := bb BK441 hb; replace BK446 := bb BK446 hb; replace BK451 := bb BK451 hb; replace BK457 := Aside0.mk (blk_below (g := gb457) (o := .cells #[.int .i64 t452, .slice Ao98 t453.length co98] 29 (0, 0)) (by (with_reducible repeat (first | refine blk_drewN ?_ _ | refine blk_drew ?_ | refine blk_alloc ?_ _)); refine blk_put (cs := #[.int .i64 t452, .slice none 0 0]) ?_ 1 _ rfl; (with_reducible repeat (first | refine blk_drewN ?_ _ | refine blk_drew ?_ | refine blk_alloc ?_ _)); refine blk_put (cs := #[.int .i64 0, .slice none 0 0]) ?_ 0 _ rfl; (with_reducible repeat (first | refine blk_drewN ?_ _ | refine blk_drew ?_ | refine blk_alloc ?_ _)); exact BK457.out) hb); replace HB := hs HB hb; (try clear hb)))
   replace HO431 := rd0 HO431
   replace HO435 := rd0 HO435
   replace HO439 := rd0 HO439
   replace HO445 := rd0 HO445
   replace HO450 := rd0 HO450
   replace HO455 := rd0 HO455
   replace BK424 := bd BK424
   replace BK425 := bd BK425
   replace BK441 := bd BK441
   replace BK446 := bd BK446
   replace BK451 := bd BK451
   replace BK457 := bd BK457
   replace HB := hd0 HB
   refine start_ (n := 5) (S := fun w' => w'.cell? ⟨gb446, 0, none⟩ = some (.int .i64 t442) ∧ w'.cell? ⟨gb446, 1, none⟩ = some (.slice Ao78 t443.length co78) ∧ w'.cell? ⟨gb424, 0, none⟩ = some (.int .i64 a0_0) ∧ w'.cell? ⟨gb424, 1, none⟩ = some (.slice A0_1 l0_1.length c0_1)) (ds := []) #[false, false, false, false, false] (by kernel_rfl) rfl rfl ⟨(blk_cell BK446.out 0).trans rfl, (blk_cell BK446.out 1).trans rfl, (blk_cell BK424.out 0).trans rfl, (blk_cell BK424.out 1).trans rfl⟩ (fun hHeld => ?_)
   generalize w100.drew = w101 at HO431 HO435 HO439 HO445 HO450 HO455 BK424 BK425 BK441 BK446 BK451 BK457 HB hHeld ⊢
   refine take_ (i := 0) (N := some 54) (v := ?_) (a' := ?_) #[true, false, false, false, false] rfl rfl (by kernel_rfl) (fun _ _ _ h => h) (Or.inl ⟨by rfl, ?_⟩) hHeld ?_ ?_
   rotate_left
   ·rintro w' ⟨s0, s1, s2, s3⟩
    go_simp
    with_reducible rfl
   rotate_left
   ·simp only [Act.put, List.setIfInBounds_toArray, List.set_cons_zero, List.set_cons_succ, i64_w, i32_w]
    rfl
   refine take_ (i := 1) (N := some 55) (v := ?_) (a' := ?_) #[true, true, false, false, false] rfl rfl (by kernel_rfl) (fun _ _ _ h => h) (Or.inl ⟨by rfl, ?_⟩) hHeld ?_ ?_
   rotate_left
   ·rintro w' ⟨s0, s1, s2, s3⟩
    go_simp
    with_reducible rfl
   rotate_left
   ·simp only [Act.put, List.setIfInBounds_toArray, List.set_cons_zero, List.set_cons_succ, i64_w, i32_w]
    rfl
   refine one_ (i := 2) (N := some 56) #[true, true, true, false, false] rfl rfl (by kernel_rfl) (by decide) (fun K hK => ?_)
   refine gs Try.func14 #[.agg #[.int .i64 a0_0, .slice A0_1 l0_1.length c0_1]] ?_
   with_reducible refine (laws_toRing.calls k a0_0 _ _ l0_1 t459 t460 _ ?side1 ?side2 A28.out).mono ?_
   (case side1 => repeat (first | exact (Kd.C_below HR0_1.out HB.out) | (with_reducible refine Kd.C_alloc ?_ _) | (with_reducible refine Kd.C_drewN ?_ _) | (with_reducible refine Kd.C_drew ?_)))
   (case side2 => exact HC0_1.out)
   rintro e w102 ⟨v461, rfl, ho0, hb⟩
   refine ⟨_, rfl, ?_⟩
   have HO462 := Aside0.mk (Kd.R_lower (Kd.R_new' (Kd.R_new' (Kd.R_new' (Kd.R_new' (Kd.R_new' (Kd.R_new' ho0 (Kd.R_lt (rk HO431.out))) (Kd.R_lt (rk HO435.out))) (Kd.R_lt (rk HO439.out))) (Kd.R_lt (rk HO445.out))) (Kd.R_lt (rk HO450.out))) (Kd.R_lt (rk HO455.out))) (below_size (bks HB.out)))
   replace HO431 := re HO431 ho0 hb
   replace HO435 := re HO435 ho0 hb
   replace HO439 := re HO439 ho0 hb
   replace HO445 := re HO445 ho0 hb
   replace HO450 := re HO450 ho0 hb
   replace HO455 := re HO455 ho0 hb
   replace BK424 := bb BK424 hb
   replace BK425 := bb BK425 hb
   replace BK441 := bb BK441 hb
   replace BK446 := bb BK446 hb
   replace BK451 := bb BK451 hb
   replace BK457 := bb BK457 hb
   replace HB := hs HB hb
   (try clear hb ho0)
   obtain ⟨Ao103, co103, eo103⟩ := Kd.R_slice HO462.out
   (first | subst eo103 | (injection eo103 with f1_ f2_ f3_; have f4_ := f1_.symm; have f5_ := f3_.symm; clear f1_ f2_ f3_; subst f4_; subst f5_))
   refine hK.out _ _ ⟨(blk_cell BK446.out 0).trans rfl, (blk_cell BK446.out 1).trans rfl, (blk_cell BK424.out 0).trans rfl, (blk_cell BK424.out 1).trans rfl⟩ (fun hHeld => ?_)
   clear hK K
   refine nm ?_
   refine one_ (i := 3) (N := some 57) #[true, true, true, true, false] rfl rfl (by kernel_rfl) (by decide) (fun K hK => ?_)
   refine gs Try.func18 #[.agg #[.int .i64 t442, .slice Ao78 t443.length co78], .agg #[.int .i64 t459, .slice Ao103 t460.length co103]] ?_
   with_reducible refine (laws_eqRing.calls k t442 _ _ t443 t459 _ _ t460 true _ ?side1 ?side2 ?side3 ?side4 A29.out).mono ?_
   (case side1 => repeat (first | exact (Kd.R_reads' HO445.out).2.2 | (with_reducible refine Kd.C_alloc ?_ _) | (with_reducible refine Kd.C_drewN ?_ _) | (with_reducible refine Kd.C_drew ?_)))
   (case side2 => exact (Kd.R_reads' HO445.out).2.1)
   (case side3 => repeat (first | exact (Kd.R_reads' HO462.out).2.2 | (with_reducible refine Kd.C_alloc ?_ _) | (with_reducible refine Kd.C_drewN ?_ _) | (with_reducible refine Kd.C_drew ?_)))
   (case side4 => exact (Kd.R_reads' HO462.out).2.1)
   rintro e w104 ⟨rfl, hb⟩
   refine ⟨_, rfl, ?_⟩
   replace HO431 := rb HO431 hb
   replace HO435 := rb HO435 hb
   replace HO439 := rb HO439 hb
   replace HO445 := rb HO445 hb
   replace HO450 := rb HO450 hb
   replace HO455 := rb HO455 hb
   replace HO462 := rb HO462 hb
   replace BK424 := bb BK424 hb
   replace BK425 := bb BK425 hb
   replace BK441 := bb BK441 hb
   replace BK446 := bb BK446 hb
   replace BK451 := bb BK451 hb
   replace BK457 := bb BK457 hb
   replace HB := hs HB hb
   (try clear hb)
   refine hK.out _ _ ⟨(blk_cell BK446.out 0).trans rfl, (blk_cell BK446.out 1).trans rfl, (blk_cell BK424.out 0).trans rfl, (blk_cell BK424.out 1).trans rfl⟩ (fun hHeld => ?_)
   clear hK K
   refine nm ?_
   refine pure_ (i := 4) (N := some 58) (v := ?_) (a' := ?_) #[true, true, true, true, true] rfl rfl (by kernel_rfl) (fun _ _ _ h => h) (Or.inl ⟨by rfl, ?_⟩) ?_ ?_
   rotate_left
   ·intro w'
    go_simp
    with_reducible rfl
   rotate_left
   ·simp only [Act.put, List.setIfInBounds_toArray, List.set_cons_zero, List.set_cons_succ, i64_w, i32_w]
    rfl
   refine done_ (by kernel_rfl) ?_
   try go_wp2
   replace HO431 := rd0 HO431
   replace HO435 := rd0 HO435
   replace HO439 := rd0 HO439
   replace HO445 := rd0 HO445
   replace HO450 := rd0 HO450
   replace HO455 := rd0 HO455
   replace HO462 := rd0 HO462
   replace BK424 := bd BK424
   replace BK425 := bd BK425
   replace BK441 := bd BK441
   replace BK446 := bd BK446
   replace BK451 := bd BK451
   replace BK457 := bd BK457
   replace HB := hd0 HB
   refine start_ (n := 5) (S := fun w' => w'.cell? ⟨gb451, 0, none⟩ = some (.int .i64 t447) ∧ w'.cell? ⟨gb451, 1, none⟩ = some (.slice Ao88 t448.length co88) ∧ w'.cell? ⟨gb425, 0, none⟩ = some (.int .i64 a1_0) ∧ w'.cell? ⟨gb425, 1, none⟩ = some (.slice A1_1 l1_1.length c1_1)) (ds := []) #[false, false, false, false, false] (by kernel_rfl) rfl rfl ⟨(blk_cell BK451.out 0).trans rfl, (blk_cell BK451.out 1).trans rfl, (blk_cell BK425.out 0).trans rfl, (blk_cell BK425.out 1).trans rfl⟩ (fun hHeld => ?_)
   generalize w104.drew = w105 at HO431 HO435 HO439 HO445 HO450 HO455 HO462 BK424 BK425 BK441 BK446 BK451 BK457 HB hHeld ⊢
   refine take_ (i := 0) (N := some 59) (v := ?_) (a' := ?_) #[true, false, false, false, false] rfl rfl (by kernel_rfl) (fun _ _ _ h => h) (Or.inl ⟨by rfl, ?_⟩) hHeld ?_ ?_
   rotate_left
   ·rintro w' ⟨s0, s1, s2, s3⟩
    go_simp
    with_reducible rfl
   rotate_left
   ·simp only [Act.put, List.setIfInBounds_toArray, List.set_cons_zero, List.set_cons_succ, i64_w, i32_w]
    rfl
   refine take_ (i := 1) (N := some 60) (v := ?_) (a' := ?_) #[true, true, false, false, false] rfl rfl (by kernel_rfl) (fun _ _ _ h => h) (Or.inl ⟨by rfl, ?_⟩) hHeld ?_ ?_
   rotate_left
   ·rintro w' ⟨s0, s1, s2, s3⟩
    go_simp
    with_reducible rfl
   rotate_left
   ·simp only [Act.put, List.setIfInBounds_toArray, List.set_cons_zero, List.set_cons_succ, i64_w, i32_w]
    rfl
   refine one_ (i := 2) (N := some 61) #[true, true, true, false, false] rfl rfl (by kernel_rfl) (by decide) (fun K hK => ?_)
   refine gs Try.func15 #[.agg #[.int .i64 a1_0, .slice A1_1 l1_1.length c1_1]] ?_
   with_reducible refine (laws_toCyclo.calls k a1_0 _ _ l1_1 t464 t465 _ ?side1 ?side2 A31.out).mono ?_
   (case side1 => repeat (first | exact (Kd.C_below HR1_1.out HB.out) | (with_reducible refine Kd.C_alloc ?_ _) | (with_reducible refine Kd.C_drewN ?_ _) | (with_reducible refine Kd.C_drew ?_)))
   (case side2 => exact HC1_1.out)
   rintro e w106 ⟨v466, rfl, ho0, hb⟩
   refine ⟨_, rfl, ?_⟩
   have HO467 := Aside0.mk (Kd.R_lower (Kd.R_new' (Kd.R_new' (Kd.R_new' (Kd.R_new' (Kd.R_new' (Kd.R_new' (Kd.R_new' ho0 (Kd.R_lt (rk HO431.out))) (Kd.R_lt (rk HO435.out))) (Kd.R_lt (rk HO439.out))) (Kd.R_lt (rk HO445.out))) (Kd.R_lt (rk HO450.out))) (Kd.R_lt (rk HO455.out))) (Kd.R_lt (rk HO462.out))) (below_size (bks HB.out)))
   replace HO431 := re HO431 ho0 hb
   replace HO435 := re HO435 ho0 hb
   replace HO439 := re HO439 ho0 hb
   replace HO445 := re HO445 ho0 hb
   replace HO450 := re HO450 ho0 hb
   replace HO455 := re HO455 ho0 hb
   replace HO462 := re HO462 ho0 hb
   replace BK424 := bb BK424 hb
   replace BK425 := bb BK425 hb
   replace BK441 := bb BK441 hb
   replace BK446 := bb BK446 hb
   replace BK451 := bb BK451 hb
   replace BK457 := bb BK457 hb
   replace HB := hs HB hb
   (try clear hb ho0)
   obtain ⟨Ao107, co107, eo107⟩ := Kd.R_slice HO467.out
   (first | subst eo107 | (injection eo107 with f1_ f2_ f3_; have f4_ := f1_.symm; have f5_ := f3_.symm; clear f1_ f2_ f3_; subst f4_; subst f5_))
   refine hK.out _ _ ⟨(blk_cell BK451.out 0).trans rfl, (blk_cell BK451.out 1).trans rfl, (blk_cell BK425.out 0).trans rfl, (blk_cell BK425.out 1).trans rfl⟩ (fun hHeld => ?_)
   clear hK K
   refine nm ?_
   refine one_ (i := 3) (N := some 62) #[true, true, true, true, false] rfl rfl (by kernel_rfl) (by decide) (fun K hK => ?_)
   refine gs Try.func17 #[.agg #[.int .i64 t447, .slice Ao88 t448.length co88], .agg #[.int .i64 t464, .slice Ao107 t465.length co107]] ?_
   with_reducible refine (laws_eqCyclo.calls k t447 _ _ t448 t464 _ _ t465 true _ ?side1 ?side2 ?side3 ?side4 A32.out).mono ?_
   (case side1 => repeat (first | exact (Kd.R_reads' HO450.out).2.2 | (with_reducible refine Kd.C_alloc ?_ _) | (with_reducible refine Kd.C_drewN ?_ _) | (with_reducible refine Kd.C_drew ?_)))
   (case side2 => exact (Kd.R_reads' HO450.out).2.1)
   (case side3 => repeat (first | exact (Kd.R_reads' HO467.out).2.2 | (with_reducible refine Kd.C_alloc ?_ _) | (with_reducible refine Kd.C_drewN ?_ _) | (with_reducible refine Kd.C_drew ?_)))
   (case side4 => exact (Kd.R_reads' HO467.out).2.1)
   rintro e w108 ⟨rfl, hb⟩
   refine ⟨_, rfl, ?_⟩
   replace HO431 := rb HO431 hb
   replace HO435 := rb HO435 hb
   replace HO439 := rb HO439 hb
   replace HO445 := rb HO445 hb
   replace HO450 := rb HO450 hb
   replace HO455 := rb HO455 hb
   replace HO462 := rb HO462 hb
   replace HO467 := rb HO467 hb
   replace BK424 := bb BK424 hb
   replace BK425 := bb BK425 hb
   replace BK441 := bb BK441 hb
   replace BK446 := bb BK446 hb
   replace BK451 := bb BK451 hb
   replace BK457 := bb BK457 hb
   replace HB := hs HB hb
   (try clear hb)
   refine hK.out _ _ ⟨(blk_cell BK451.out 0).trans rfl, (blk_cell BK451.out 1).trans rfl, (blk_cell BK425.out 0).trans rfl, (blk_cell BK425.out 1).trans rfl⟩ (fun hHeld => ?_)
   clear hK K
   refine nm ?_
   refine pure_ (i := 4) (N := some 63) (v := ?_) (a' := ?_) #[true, true, true, true, true] rfl rfl (by kernel_rfl) (fun _ _ _ h => h) (Or.inl ⟨by rfl, ?_⟩) ?_ ?_
   rotate_left
   ·intro w'
    go_simp
    with_reducible rfl
   rotate_left
   ·simp only [Act.put, List.setIfInBounds_toArray, List.set_cons_zero, List.set_cons_succ, i64_w, i32_w]
    rfl
   refine done_ (by kernel_rfl) ?_
   have hcz109_0 : w108.cell? ⟨gb446, 0, none⟩ = some (.int .i64 t442) := (blk_cell BK446.out 0).trans rfl
   have hcz109_1 : w108.cell? ⟨gb446, 1, none⟩ = some (.slice Ao78 t443.length co78) := (blk_cell BK446.out 1).trans rfl
   have hfz109_0 := blk_frozen BK446.out 0
   have hfz109_1 := blk_frozen BK446.out 1
   try go_wp2_with (first | ((with_reducible refine gate_callee (f := 19) rfl ?_); refine gl (some 66) Try.func19 #[.agg #[.int .i64 t442, .slice Ao78 t443.length co78], .int .i64 1] ?_; (with_reducible refine (laws_markRing.calls k t442 (fun k_ => some k_ = (.slice Ao78 t443.length co78 : Value).ownBlock) (.slice Ao78 t443.length co78) t443 1 t469 t470 w _ ?side1 ?side2 A34.out).mono ?_); (case side1 => repeat (first | (with_reducible first | exact HB.out | apply below_alloc | apply pw_below_drewN | apply below_drew1 | refine below_set ?_ GE424.out | refine below_set ?_ GE425.out | refine below_set ?_ GE441.out | refine below_set ?_ GE446.out | refine below_set ?_ GE451.out | refine below_set ?_ GE457.out) | exact HB.out)); (case side2 => exact Kd.R_tight rfl HO445.out); rintro e w110 ⟨rfl, hy0, hb, hkp⟩; refine ⟨_, rfl, ?_⟩; replace BK424 := Aside0.mk (blk_kept (pk BK424.out) hkp (fun hs_ => (fun e_ => (Kd.R_ne HO445.out BK424.out (by decide)) e_) hs_)); replace BK425 := Aside0.mk (blk_kept (pk BK425.out) hkp (fun hs_ => (fun e_ => (Kd.R_ne HO445.out BK425.out (by decide)) e_) hs_)); replace HO431 := Aside0.mk (Kd.R_mono (ok' := fun k_ => some k_ ≠ (v434 : Value).ownBlock ∧ some k_ ≠ (.slice Ao68 t437.length co68 : Value).ownBlock ∧ some k_ ≠ (.slice Ao78 t443.length co78 : Value).ownBlock ∧ some k_ ≠ (.slice Ao88 t448.length co88 : Value).ownBlock ∧ some k_ ≠ (.slice Ao98 t453.length co98 : Value).ownBlock ∧ some k_ ≠ (.slice Ao103 t460.length co103 : Value).ownBlock ∧ some k_ ≠ (.slice Ao107 t465.length co107 : Value).ownBlock) (Kd.R_keptB (HO431.out) hkp (fun k_ hk_ hs_ => (hk_.1.1.1.1.2) hs_)) (fun k_ hk_ => ⟨hk_.1.1.1.1.1.1.1, hk_.1.1.1.1.1.1.2, hk_.1.1.1.1.1.2, hk_.1.1.1.1.2, hk_.1.1.1.2, hk_.1.1.2, hk_.1.2⟩)); replace HO435 := Aside0.mk (Kd.R_mono (ok' := fun k_ => some k_ ≠ (v430 : Value).ownBlock ∧ some k_ ≠ (.slice Ao68 t437.length co68 : Value).ownBlock ∧ some k_ ≠ (.slice Ao78 t443.length co78 : Value).ownBlock ∧ some k_ ≠ (.slice Ao88 t448.length co88 : Value).ownBlock ∧ some k_ ≠ (.slice Ao98 t453.length co98 : Value).ownBlock ∧ some k_ ≠ (.slice Ao103 t460.length co103 : Value).ownBlock ∧ some k_ ≠ (.slice Ao107 t465.length co107 : Value).ownBlock) (Kd.R_keptB (HO435.out) hkp (fun k_ hk_ hs_ => (hk_.1.1.1.1.2) hs_)) (fun k_ hk_ => ⟨hk_.1.1.1.1.1.1.1, hk_.1.1.1.1.1.1.2, hk_.1.1.1.1.1.2, hk_.1.1.1.1.2, hk_.1.1.1.2, hk_.1.1.2, hk_.1.2⟩)); replace HO439 := Aside0.mk (Kd.R_mono (ok' := fun k_ => some k_ ≠ (v430 : Value).ownBlock ∧ some k_ ≠ (v434 : Value).ownBlock ∧ some k_ ≠ (.slice Ao78 t443.length co78 : Value).ownBlock ∧ some k_ ≠ (.slice Ao88 t448.length co88 : Value).ownBlock ∧ some k_ ≠ (.slice Ao98 t453.length co98 : Value).ownBlock ∧ some k_ ≠ (.slice Ao103 t460.length co103 : Value).ownBlock ∧ some k_ ≠ (.slice Ao107 t465.length co107 : Value).ownBlock) (Kd.R_keptB (HO439.out) hkp (fun k_ hk_ hs_ => (hk_.1.1.1.1.2) hs_)) (fun k_ hk_ => ⟨hk_.1.1.1.1.1.1.1, hk_.1.1.1.1.1.1.2, hk_.1.1.1.1.1.2, hk_.1.1.1.1.2, hk_.1.1.1.2, hk_.1.1.2, hk_.1.2⟩)); replace BK441 := Aside0.mk (blk_kept (pk BK441.out) hkp (fun hs_ => (fun e_ => (Kd.R_ne HO445.out BK441.out (by decide)) e_) hs_)); replace BK446 := Aside0.mk (blk_kept (pk BK446.out) hkp (fun hs_ => (fun e_ => (Kd.R_ne HO445.out BK446.out (by decide)) e_) hs_)); replace HO450 := Aside0.mk (Kd.R_mono (ok' := fun k_ => some k_ ≠ (v430 : Value).ownBlock ∧ some k_ ≠ (v434 : Value).ownBlock ∧ some k_ ≠ (.slice Ao68 t437.length co68 : Value).ownBlock ∧ some k_ ≠ (.slice Ao78 t443.length co78 : Value).ownBlock ∧ some k_ ≠ (.slice Ao98 t453.length co98 : Value).ownBlock ∧ some k_ ≠ (.slice Ao103 t460.length co103 : Value).ownBlock ∧ some k_ ≠ (.slice Ao107 t465.length co107 : Value).ownBlock) (Kd.R_keptB (HO450.out) hkp (fun k_ hk_ hs_ => (hk_.1.1.1.2) hs_)) (fun k_ hk_ => ⟨hk_.1.1.1.1.1.1.1.2, hk_.1.1.1.1.1.1.2, hk_.1.1.1.1.1.2, hk_.1.1.1.1.2, hk_.1.1.1.2, hk_.1.1.2, hk_.1.2⟩)); replace BK451 := Aside0.mk (blk_kept (pk BK451.out) hkp (fun hs_ => (fun e_ => (Kd.R_ne HO445.out BK451.out (by decide)) e_) hs_)); replace HO455 := Aside0.mk (Kd.R_mono (ok' := fun k_ => some k_ ≠ (v430 : Value).ownBlock ∧ some k_ ≠ (v434 : Value).ownBlock ∧ some k_ ≠ (.slice Ao68 t437.length co68 : Value).ownBlock ∧ some k_ ≠ (.slice Ao78 t443.length co78 : Value).ownBlock ∧ some k_ ≠ (.slice Ao88 t448.length co88 : Value).ownBlock ∧ some k_ ≠ (.slice Ao103 t460.length co103 : Value).ownBlock ∧ some k_ ≠ (.slice Ao107 t465.length co107 : Value).ownBlock) (Kd.R_keptB (HO455.out) hkp (fun k_ hk_ hs_ => (hk_.1.1.1.2) hs_)) (fun k_ hk_ => ⟨hk_.1.1.1.1.1.1.1.2, hk_.1.1.1.1.1.1.2, hk_.1.1.1.1.1.2, hk_.1.1.1.1.2, hk_.1.1.1.2, hk_.1.1.2, hk_.1.2⟩)); replace BK457 := Aside0.mk (blk_kept (pk BK457.out) hkp (fun hs_ => (fun e_ => (Kd.R_ne HO445.out BK457.out (by decide)) e_) hs_)); replace HO445 := Aside0.mk (Kd.R_reok rfl hy0 (fun k_ e_ => HO445.out.1 k_ e_)); replace HO462 := Aside0.mk (Kd.R_mono (ok' := fun k_ => some k_ ≠ (v430 : Value).ownBlock ∧ some k_ ≠ (v434 : Value).ownBlock ∧ some k_ ≠ (.slice Ao68 t437.length co68 : Value).ownBlock ∧ some k_ ≠ (.slice Ao78 t443.length co78 : Value).ownBlock ∧ some k_ ≠ (.slice Ao88 t448.length co88 : Value).ownBlock ∧ some k_ ≠ (.slice Ao98 t453.length co98 : Value).ownBlock ∧ some k_ ≠ (.slice Ao107 t465.length co107 : Value).ownBlock) (Kd.R_keptB (HO462.out) hkp (fun k_ hk_ hs_ => (hk_.1.1.1.2) hs_)) (fun k_ hk_ => ⟨hk_.1.1.1.1.1.1.1.2, hk_.1.1.1.1.1.1.2, hk_.1.1.1.1.1.2, hk_.1.1.1.1.2, hk_.1.1.1.2, hk_.1.1.2, hk_.1.2⟩)); replace HO467 := Aside0.mk (Kd.R_mono (ok' := fun k_ => some k_ ≠ (v430 : Value).ownBlock ∧ some k_ ≠ (v434 : Value).ownBlock ∧ some k_ ≠ (.slice Ao68 t437.length co68 : Value).ownBlock ∧ some k_ ≠ (.slice Ao78 t443.length co78 : Value).ownBlock ∧ some k_ ≠ (.slice Ao88 t448.length co88 : Value).ownBlock ∧ some k_ ≠ (.slice Ao98 t453.length co98 : Value).ownBlock ∧ some k_ ≠ (.slice Ao103 t460.length co103 : Value).ownBlock) (Kd.R_keptB (HO467.out) hkp (fun k_ hk_ hs_ => (hk_.1.1.1.2) hs_)) (fun k_ hk_ => ⟨hk_.1.1.1.1.1.1.1.2, hk_.1.1.1.1.1.1.2, hk_.1.1.1.1.1.2, hk_.1.1.1.1.2, hk_.1.1.1.2, hk_.1.1.2, hk_.1.2⟩)); replace HB := Aside0.mk hb; (try clear hb hkp hy0); have hcz111_0 : w110.cell? ⟨gb451, 0, none⟩ = some (.int .i64 t447) := (blk_cell BK451.out 0).trans rfl; have hcz111_1 : w110.cell? ⟨gb451, 1, none⟩ = some (.slice Ao88 t448.length co88) := (blk_cell BK451.out 1).trans rfl; have hfz111_0 := blk_frozen BK451.out 0; have hfz111_1 := blk_frozen BK451.out 1) | ((with_reducible refine gate_callee (f := 20) rfl ?_); refine gl (some 69) Try.func20 #[.agg #[.int .i64 t447, .slice Ao88 t448.length co88], .int .i64 t469] ?_; (with_reducible refine (laws_markCyclo.calls k t447 (fun k_ => some k_ = (.slice Ao88 t448.length co88 : Value).ownBlock) (.slice Ao88 t448.length co88) t448 t469 t471 t472 w _ ?side1 ?side2 A35.out).mono ?_); (case side1 => repeat (first | (with_reducible first | exact HB.out | apply below_alloc | apply pw_below_drewN | apply below_drew1 | refine below_set ?_ GE424.out | refine below_set ?_ GE425.out | refine below_set ?_ GE441.out | refine below_set ?_ GE446.out | refine below_set ?_ GE451.out | refine below_set ?_ GE457.out) | exact HB.out)); (case side2 => exact Kd.R_tight rfl HO450.out); rintro e w112 ⟨rfl, hy0, hb, hkp⟩; refine ⟨_, rfl, ?_⟩; replace BK424 := Aside0.mk (blk_kept (pk BK424.out) hkp (fun hs_ => (fun e_ => (Kd.R_ne HO450.out BK424.out (by decide)) e_) hs_)); replace BK425 := Aside0.mk (blk_kept (pk BK425.out) hkp (fun hs_ => (fun e_ => (Kd.R_ne HO450.out BK425.out (by decide)) e_) hs_)); replace HO431 := Aside0.mk (Kd.R_mono (ok' := fun k_ => some k_ ≠ (v434 : Value).ownBlock ∧ some k_ ≠ (.slice Ao68 t437.length co68 : Value).ownBlock ∧ some k_ ≠ (.slice Ao78 t443.length co78 : Value).ownBlock ∧ some k_ ≠ (.slice Ao88 t448.length co88 : Value).ownBlock ∧ some k_ ≠ (.slice Ao98 t453.length co98 : Value).ownBlock ∧ some k_ ≠ (.slice Ao103 t460.length co103 : Value).ownBlock ∧ some k_ ≠ (.slice Ao107 t465.length co107 : Value).ownBlock) (Kd.R_keptB (HO431.out) hkp (fun k_ hk_ hs_ => (hk_.2.2.2.1) hs_)) (fun k_ hk_ => ⟨hk_.1.1, hk_.1.2.1, hk_.1.2.2.1, hk_.1.2.2.2.1, hk_.1.2.2.2.2.1, hk_.1.2.2.2.2.2.1, hk_.1.2.2.2.2.2.2⟩)); replace HO435 := Aside0.mk (Kd.R_mono (ok' := fun k_ => some k_ ≠ (v430 : Value).ownBlock ∧ some k_ ≠ (.slice Ao68 t437.length co68 : Value).ownBlock ∧ some k_ ≠ (.slice Ao78 t443.length co78 : Value).ownBlock ∧ some k_ ≠ (.slice Ao88 t448.length co88 : Value).ownBlock ∧ some k_ ≠ (.slice Ao98 t453.length co98 : Value).ownBlock ∧ some k_ ≠ (.slice Ao103 t460.length co103 : Value).ownBlock ∧ some k_ ≠ (.slice Ao107 t465.length co107 : Value).ownBlock) (Kd.R_keptB (HO435.out) hkp (fun k_ hk_ hs_ => (hk_.2.2.2.1) hs_)) (fun k_ hk_ => ⟨hk_.1.1, hk_.1.2.1, hk_.1.2.2.1, hk_.1.2.2.2.1, hk_.1.2.2.2.2.1, hk_.1.2.2.2.2.2.1, hk_.1.2.2.2.2.2.2⟩)); replace HO439 := Aside0.mk (Kd.R_mono (ok' := fun k_ => some k_ ≠ (v430 : Value).ownBlock ∧ some k_ ≠ (v434 : Value).ownBlock ∧ some k_ ≠ (.slice Ao78 t443.length co78 : Value).ownBlock ∧ some k_ ≠ (.slice Ao88 t448.length co88 : Value).ownBlock ∧ some k_ ≠ (.slice Ao98 t453.length co98 : Value).ownBlock ∧ some k_ ≠ (.slice Ao103 t460.length co103 : Value).ownBlock ∧ some k_ ≠ (.slice Ao107 t465.length co107 : Value).ownBlock) (Kd.R_keptB (HO439.out) hkp (fun k_ hk_ hs_ => (hk_.2.2.2.1) hs_)) (fun k_ hk_ => ⟨hk_.1.1, hk_.1.2.1, hk_.1.2.2.1, hk_.1.2.2.2.1, hk_.1.2.2.2.2.1, hk_.1.2.2.2.2.2.1, hk_.1.2.2.2.2.2.2⟩)); replace BK441 := Aside0.mk (blk_kept (pk BK441.out) hkp (fun hs_ => (fun e_ => (Kd.R_ne HO450.out BK441.out (by decide)) e_) hs_)); replace HO445 := Aside0.mk (Kd.R_mono (ok' := fun k_ => some k_ ≠ (v430 : Value).ownBlock ∧ some k_ ≠ (v434 : Value).ownBlock ∧ some k_ ≠ (.slice Ao68 t437.length co68 : Value).ownBlock ∧ some k_ ≠ (.slice Ao88 t448.length co88 : Value).ownBlock ∧ some k_ ≠ (.slice Ao98 t453.length co98 : Value).ownBlock ∧ some k_ ≠ (.slice Ao103 t460.length co103 : Value).ownBlock ∧ some k_ ≠ (.slice Ao107 t465.length co107 : Value).ownBlock) (Kd.R_keptB (HO445.out) hkp (fun k_ hk_ hs_ => (hk_.1.1.1.2) hs_)) (fun k_ hk_ => ⟨hk_.1.1.1.1.1.1.1.2, hk_.1.1.1.1.1.1.2, hk_.1.1.1.1.1.2, hk_.1.1.1.1.2, hk_.1.1.1.2, hk_.1.1.2, hk_.1.2⟩)); replace BK446 := Aside0.mk (blk_kept (pk BK446.out) hkp (fun hs_ => (fun e_ => (Kd.R_ne HO450.out BK446.out (by decide)) e_) hs_)); replace BK451 := Aside0.mk (blk_kept (pk BK451.out) hkp (fun hs_ => (fun e_ => (Kd.R_ne HO450.out BK451.out (by decide)) e_) hs_)); replace HO455 := Aside0.mk (Kd.R_mono (ok' := fun k_ => some k_ ≠ (v430 : Value).ownBlock ∧ some k_ ≠ (v434 : Value).ownBlock ∧ some k_ ≠ (.slice Ao68 t437.length co68 : Value).ownBlock ∧ some k_ ≠ (.slice Ao78 t443.length co78 : Value).ownBlock ∧ some k_ ≠ (.slice Ao88 t448.length co88 : Value).ownBlock ∧ some k_ ≠ (.slice Ao103 t460.length co103 : Value).ownBlock ∧ some k_ ≠ (.slice Ao107 t465.length co107 : Value).ownBlock) (Kd.R_keptB (HO455.out) hkp (fun k_ hk_ hs_ => (hk_.2.2.2.2.1) hs_)) (fun k_ hk_ => ⟨hk_.1.1, hk_.1.2.1, hk_.1.2.2.1, hk_.1.2.2.2.1, hk_.1.2.2.2.2.1, hk_.1.2.2.2.2.2.1, hk_.1.2.2.2.2.2.2⟩)); replace BK457 := Aside0.mk (blk_kept (pk BK457.out) hkp (fun hs_ => (fun e_ => (Kd.R_ne HO450.out BK457.out (by decide)) e_) hs_)); replace HO450 := Aside0.mk (Kd.R_reok rfl hy0 (fun k_ e_ => HO450.out.1 k_ e_)); replace HO462 := Aside0.mk (Kd.R_mono (ok' := fun k_ => some k_ ≠ (v430 : Value).ownBlock ∧ some k_ ≠ (v434 : Value).ownBlock ∧ some k_ ≠ (.slice Ao68 t437.length co68 : Value).ownBlock ∧ some k_ ≠ (.slice Ao78 t443.length co78 : Value).ownBlock ∧ some k_ ≠ (.slice Ao88 t448.length co88 : Value).ownBlock ∧ some k_ ≠ (.slice Ao98 t453.length co98 : Value).ownBlock ∧ some k_ ≠ (.slice Ao107 t465.length co107 : Value).ownBlock) (Kd.R_keptB (HO462.out) hkp (fun k_ hk_ hs_ => (hk_.2.2.2.2.1) hs_)) (fun k_ hk_ => ⟨hk_.1.1, hk_.1.2.1, hk_.1.2.2.1, hk_.1.2.2.2.1, hk_.1.2.2.2.2.1, hk_.1.2.2.2.2.2.1, hk_.1.2.2.2.2.2.2⟩)); replace HO467 := Aside0.mk (Kd.R_mono (ok' := fun k_ => some k_ ≠ (v430 : Value).ownBlock ∧ some k_ ≠ (v434 : Value).ownBlock ∧ some k_ ≠ (.slice Ao68 t437.length co68 : Value).ownBlock ∧ some k_ ≠ (.slice Ao78 t443.length co78 : Value).ownBlock ∧ some k_ ≠ (.slice Ao88 t448.length co88 : Value).ownBlock ∧ some k_ ≠ (.slice Ao98 t453.length co98 : Value).ownBlock ∧ some k_ ≠ (.slice Ao103 t460.length co103 : Value).ownBlock) (Kd.R_keptB (HO467.out) hkp (fun k_ hk_ hs_ => (hk_.2.2.2.2.1) hs_)) (fun k_ hk_ => ⟨hk_.1.1, hk_.1.2.1, hk_.1.2.2.1, hk_.1.2.2.2.1, hk_.1.2.2.2.2.1, hk_.1.2.2.2.2.2.1, hk_.1.2.2.2.2.2.2⟩)); replace HB := Aside0.mk hb; (try clear hb hkp hy0); have hcz113_0 : w112.cell? ⟨gb457, 0, none⟩ = some (.int .i64 t452) := (blk_cell BK457.out 0).trans rfl; have hcz113_1 : w112.cell? ⟨gb457, 1, none⟩ = some (.slice Ao98 t453.length co98) := (blk_cell BK457.out 1).trans rfl; have hfz113_0 := blk_frozen BK457.out 0; have hfz113_1 := blk_frozen BK457.out 1; have hcz114_0 : w112.cell? ⟨gb441, 0, none⟩ = some (.int .i64 t436) := (blk_cell BK441.out 0).trans rfl; have hcz114_1 : w112.cell? ⟨gb441, 1, none⟩ = some (.slice Ao68 t437.length co68) := (blk_cell BK441.out 1).trans rfl; have hfz114_0 := blk_frozen BK441.out 0; have hfz114_1 := blk_frozen BK441.out 1) | (go_at_call 17; (with_reducible refine (laws_eqCyclo.calls k t452 _ _ t453 t436 _ _ t437 true _ ?side1 ?side2 ?side3 ?side4 A37.out).mono ?_); (case side1 => repeat (first | exact (Kd.R_reads' HO455.out).2.2 | (with_reducible refine Kd.C_alloc ?_ _) | (with_reducible refine Kd.C_drewN ?_ _) | (with_reducible refine Kd.C_drew ?_))); (case side2 => exact (Kd.R_reads' HO455.out).2.1); (case side3 => repeat (first | exact (Kd.R_reads' HO439.out).2.2 | (with_reducible refine Kd.C_alloc ?_ _) | (with_reducible refine Kd.C_drewN ?_ _) | (with_reducible refine Kd.C_drew ?_))); (case side4 => exact (Kd.R_reads' HO439.out).2.1); rintro e w115 ⟨rfl, hb⟩; replace HO431 := rb HO431 hb; replace HO435 := rb HO435 hb; replace HO439 := rb HO439 hb; replace HO445 := rb HO445 hb; replace HO450 := rb HO450 hb; replace HO455 := rb HO455 hb; replace HO462 := rb HO462 hb; replace HO467 := rb HO467 hb; replace BK424 := bb BK424 hb; replace BK425 := bb BK425 hb; replace BK441 := bb BK441 hb; replace BK446 := bb BK446 hb; replace BK451 := bb BK451 hb; replace BK457 := bb BK457 hb; replace HB := hs HB hb; (try clear hb); have hcz116_0 : w115.cell? ⟨gb457, 0, none⟩ = some (.int .i64 t452) := (blk_cell BK457.out 0).trans rfl; have hcz116_1 : w115.cell? ⟨gb457, 1, none⟩ = some (.slice Ao98 t453.length co98) := (blk_cell BK457.out 1).trans rfl; have hfz116_0 := blk_frozen BK457.out 0; have hfz116_1 := blk_frozen BK457.out 1) | ((with_reducible refine gate_callee (f := 20) rfl ?_); refine gl (some 85) Try.func20 #[.agg #[.int .i64 t452, .slice Ao98 t453.length co98], .int .i64 1] ?_; (with_reducible refine (laws_markCyclo.calls k t452 (fun k_ => some k_ = (.slice Ao98 t453.length co98 : Value).ownBlock) (.slice Ao98 t453.length co98) t453 1 t474 t475 w _ ?side1 ?side2 A39.out).mono ?_); (case side1 => repeat (first | (with_reducible first | exact HB.out | apply below_alloc | apply pw_below_drewN | apply below_drew1 | refine below_set ?_ GE424.out | refine below_set ?_ GE425.out | refine below_set ?_ GE441.out | refine below_set ?_ GE446.out | refine below_set ?_ GE451.out | refine below_set ?_ GE457.out) | exact HB.out)); (case side2 => exact Kd.R_tight rfl HO455.out); rintro e w117 ⟨rfl, hy0, hb, hkp⟩; refine ⟨_, rfl, ?_⟩; replace BK424 := Aside0.mk (blk_kept (pk BK424.out) hkp (fun hs_ => (fun e_ => (Kd.R_ne HO455.out BK424.out (by decide)) e_) hs_)); replace BK425 := Aside0.mk (blk_kept (pk BK425.out) hkp (fun hs_ => (fun e_ => (Kd.R_ne HO455.out BK425.out (by decide)) e_) hs_)); replace HO431 := Aside0.mk (Kd.R_mono (ok' := fun k_ => some k_ ≠ (v434 : Value).ownBlock ∧ some k_ ≠ (.slice Ao68 t437.length co68 : Value).ownBlock ∧ some k_ ≠ (.slice Ao78 t443.length co78 : Value).ownBlock ∧ some k_ ≠ (.slice Ao88 t448.length co88 : Value).ownBlock ∧ some k_ ≠ (.slice Ao98 t453.length co98 : Value).ownBlock ∧ some k_ ≠ (.slice Ao103 t460.length co103 : Value).ownBlock ∧ some k_ ≠ (.slice Ao107 t465.length co107 : Value).ownBlock) (Kd.R_keptB (HO431.out) hkp (fun k_ hk_ hs_ => (hk_.2.2.2.2.1) hs_)) (fun k_ hk_ => ⟨hk_.1.1, hk_.1.2.1, hk_.1.2.2.1, hk_.1.2.2.2.1, hk_.1.2.2.2.2.1, hk_.1.2.2.2.2.2.1, hk_.1.2.2.2.2.2.2⟩)); replace HO435 := Aside0.mk (Kd.R_mono (ok' := fun k_ => some k_ ≠ (v430 : Value).ownBlock ∧ some k_ ≠ (.slice Ao68 t437.length co68 : Value).ownBlock ∧ some k_ ≠ (.slice Ao78 t443.length co78 : Value).ownBlock ∧ some k_ ≠ (.slice Ao88 t448.length co88 : Value).ownBlock ∧ some k_ ≠ (.slice Ao98 t453.length co98 : Value).ownBlock ∧ some k_ ≠ (.slice Ao103 t460.length co103 : Value).ownBlock ∧ some k_ ≠ (.slice Ao107 t465.length co107 : Value).ownBlock) (Kd.R_keptB (HO435.out) hkp (fun k_ hk_ hs_ => (hk_.2.2.2.2.1) hs_)) (fun k_ hk_ => ⟨hk_.1.1, hk_.1.2.1, hk_.1.2.2.1, hk_.1.2.2.2.1, hk_.1.2.2.2.2.1, hk_.1.2.2.2.2.2.1, hk_.1.2.2.2.2.2.2⟩)); replace HO439 := Aside0.mk (Kd.R_mono (ok' := fun k_ => some k_ ≠ (v430 : Value).ownBlock ∧ some k_ ≠ (v434 : Value).ownBlock ∧ some k_ ≠ (.slice Ao78 t443.length co78 : Value).ownBlock ∧ some k_ ≠ (.slice Ao88 t448.length co88 : Value).ownBlock ∧ some k_ ≠ (.slice Ao98 t453.length co98 : Value).ownBlock ∧ some k_ ≠ (.slice Ao103 t460.length co103 : Value).ownBlock ∧ some k_ ≠ (.slice Ao107 t465.length co107 : Value).ownBlock) (Kd.R_keptB (HO439.out) hkp (fun k_ hk_ hs_ => (hk_.2.2.2.2.1) hs_)) (fun k_ hk_ => ⟨hk_.1.1, hk_.1.2.1, hk_.1.2.2.1, hk_.1.2.2.2.1, hk_.1.2.2.2.2.1, hk_.1.2.2.2.2.2.1, hk_.1.2.2.2.2.2.2⟩)); replace BK441 := Aside0.mk (blk_kept (pk BK441.out) hkp (fun hs_ => (fun e_ => (Kd.R_ne HO455.out BK441.out (by decide)) e_) hs_)); replace HO445 := Aside0.mk (Kd.R_mono (ok' := fun k_ => some k_ ≠ (v430 : Value).ownBlock ∧ some k_ ≠ (v434 : Value).ownBlock ∧ some k_ ≠ (.slice Ao68 t437.length co68 : Value).ownBlock ∧ some k_ ≠ (.slice Ao88 t448.length co88 : Value).ownBlock ∧ some k_ ≠ (.slice Ao98 t453.length co98 : Value).ownBlock ∧ some k_ ≠ (.slice Ao103 t460.length co103 : Value).ownBlock ∧ some k_ ≠ (.slice Ao107 t465.length co107 : Value).ownBlock) (Kd.R_keptB (HO445.out) hkp (fun k_ hk_ hs_ => (hk_.2.2.2.2.1) hs_)) (fun k_ hk_ => ⟨hk_.1.1, hk_.1.2.1, hk_.1.2.2.1, hk_.1.2.2.2.1, hk_.1.2.2.2.2.1, hk_.1.2.2.2.2.2.1, hk_.1.2.2.2.2.2.2⟩)); replace BK446 := Aside0.mk (blk_kept (pk BK446.out) hkp (fun hs_ => (fun e_ => (Kd.R_ne HO455.out BK446.out (by decide)) e_) hs_)); replace HO450 := Aside0.mk (Kd.R_mono (ok' := fun k_ => some k_ ≠ (v430 : Value).ownBlock ∧ some k_ ≠ (v434 : Value).ownBlock ∧ some k_ ≠ (.slice Ao68 t437.length co68 : Value).ownBlock ∧ some k_ ≠ (.slice Ao78 t443.length co78 : Value).ownBlock ∧ some k_ ≠ (.slice Ao98 t453.length co98 : Value).ownBlock ∧ some k_ ≠ (.slice Ao103 t460.length co103 : Value).ownBlock ∧ some k_ ≠ (.slice Ao107 t465.length co107 : Value).ownBlock) (Kd.R_keptB (HO450.out) hkp (fun k_ hk_ hs_ => (hk_.2.2.2.2.1) hs_)) (fun k_ hk_ => ⟨hk_.1.1, hk_.1.2.1, hk_.1.2.2.1, hk_.1.2.2.2.1, hk_.1.2.2.2.2.1, hk_.1.2.2.2.2.2.1, hk_.1.2.2.2.2.2.2⟩)); replace BK451 := Aside0.mk (blk_kept (pk BK451.out) hkp (fun hs_ => (fun e_ => (Kd.R_ne HO455.out BK451.out (by decide)) e_) hs_)); replace BK457 := Aside0.mk (blk_kept (pk BK457.out) hkp (fun hs_ => (fun e_ => (Kd.R_ne HO455.out BK457.out (by decide)) e_) hs_)); replace HO455 := Aside0.mk (Kd.R_reok rfl hy0 (fun k_ e_ => HO455.out.1 k_ e_)); replace HO462 := Aside0.mk (Kd.R_mono (ok' := fun k_ => some k_ ≠ (v430 : Value).ownBlock ∧ some k_ ≠ (v434 : Value).ownBlock ∧ some k_ ≠ (.slice Ao68 t437.length co68 : Value).ownBlock ∧ some k_ ≠ (.slice Ao78 t443.length co78 : Value).ownBlock ∧ some k_ ≠ (.slice Ao88 t448.length co88 : Value).ownBlock ∧ some k_ ≠ (.slice Ao98 t453.length co98 : Value).ownBlock ∧ some k_ ≠ (.slice Ao107 t465.length co107 : Value).ownBlock) (Kd.R_keptB (HO462.out) hkp (fun k_ hk_ hs_ => (hk_.2.2.2.2.2.1) hs_)) (fun k_ hk_ => ⟨hk_.1.1, hk_.1.2.1, hk_.1.2.2.1, hk_.1.2.2.2.1, hk_.1.2.2.2.2.1, hk_.1.2.2.2.2.2.1, hk_.1.2.2.2.2.2.2⟩)); replace HO467 := Aside0.mk (Kd.R_mono (ok' := fun k_ => some k_ ≠ (v430 : Value).ownBlock ∧ some k_ ≠ (v434 : Value).ownBlock ∧ some k_ ≠ (.slice Ao68 t437.length co68 : Value).ownBlock ∧ some k_ ≠ (.slice Ao78 t443.length co78 : Value).ownBlock ∧ some k_ ≠ (.slice Ao88 t448.length co88 : Value).ownBlock ∧ some k_ ≠ (.slice Ao98 t453.length co98 : Value).ownBlock ∧ some k_ ≠ (.slice Ao103 t460.length co103 : Value).ownBlock) (Kd.R_keptB (HO467.out) hkp (fun k_ hk_ hs_ => (hk_.2.2.2.2.2.1) hs_)) (fun k_ hk_ => ⟨hk_.1.1, hk_.1.2.1, hk_.1.2.2.1, hk_.1.2.2.2.1, hk_.1.2.2.2.2.1, hk_.1.2.2.2.2.2.1, hk_.1.2.2.2.2.2.2⟩)); replace HB := Aside0.mk hb; (try clear hb hkp hy0); have hcz118_0 : w117.cell? ⟨gb457, 0, none⟩ = some (.int .i64 t452) := (blk_cell BK457.out 0).trans rfl; have hcz118_1 : w117.cell? ⟨gb457, 1, none⟩ = some (.slice Ao98 t453.length co98) := (blk_cell BK457.out 1).trans rfl; have hfz118_0 := blk_frozen BK457.out 0; have hfz118_1 := blk_frozen BK457.out 1) | ((with_reducible refine gate_callee (f := 21) rfl ?_); refine goesL_ (some 88) rfl rfl Try.func21 (by kernel_rfl) rfl #[.agg #[.int .i64 t452, .slice Ao98 t475.length co98], .int .i64 1] rfl (by (try simp only [List.map_toArray, List.map_cons, List.map_nil]); first | done | (rw [show t475.length = t453.length from (Kd.R_reads' HO455.out).1.symm] <;> rfl) | rfl | (simp only [List.length_drop, List.length_take]; rfl)) ?_; (with_reducible refine (laws_heldCyclo.calls k t452 _ _ t475 1 t476 _ ?side1 ?side2 A40.out).mono ?_); (case side1 => repeat (first | exact (Kd.R_reads' HO455.out).2.2 | (with_reducible refine Kd.C_alloc ?_ _) | (with_reducible refine Kd.C_drewN ?_ _) | (with_reducible refine Kd.C_drew ?_))); (case side2 => rw [show t475.length = t453.length from (Kd.R_reads' HO455.out).1.symm]; exact (Kd.R_reads' HO455.out).2.1); rintro e w119 ⟨rfl, hb⟩; refine ⟨_, rfl, ?_⟩; replace HO431 := rb HO431 hb; replace HO435 := rb HO435 hb; replace HO439 := rb HO439 hb; replace HO445 := rb HO445 hb; replace HO450 := rb HO450 hb; replace HO455 := rb HO455 hb; replace HO462 := rb HO462 hb; replace HO467 := rb HO467 hb; replace BK424 := bb BK424 hb; replace BK425 := bb BK425 hb; replace BK441 := bb BK441 hb; replace BK446 := bb BK446 hb; replace BK451 := bb BK451 hb; replace BK457 := bb BK457 hb; replace HB := hs HB hb; (try clear hb)))
   replace HO431 := rd0 HO431
   replace HO435 := rd0 HO435
   replace HO439 := rd0 HO439
   replace HO445 := rd0 HO445
   replace HO450 := rd0 HO450
   replace HO455 := rd0 HO455
   replace HO462 := rd0 HO462
   replace HO467 := rd0 HO467
   replace BK424 := bd BK424
   replace BK425 := bd BK425
   replace BK441 := bd BK441
   replace BK446 := bd BK446
   replace BK451 := bd BK451
   replace BK457 := bd BK457
   replace HB := hd0 HB
   refine start_ (n := 11) (S := fun w' => w'.cell? ⟨gb424, 0, none⟩ = some (.int .i64 a0_0) ∧ w'.cell? ⟨gb424, 1, none⟩ = some (.slice A0_1 l0_1.length c0_1) ∧ w'.cell? ⟨gb425, 0, none⟩ = some (.int .i64 a1_0) ∧ w'.cell? ⟨gb425, 1, none⟩ = some (.slice A1_1 l1_1.length c1_1)) (ds := []) #[false, false, false, false, false, false, false, false, false, false, false] (by kernel_rfl) rfl rfl ⟨(blk_cell BK424.out 0).trans rfl, (blk_cell BK424.out 1).trans rfl, (blk_cell BK425.out 0).trans rfl, (blk_cell BK425.out 1).trans rfl⟩ (fun hHeld => ?_); refine with_tabW laws_FnExactActOnCyclo.tab31 laws_FnExactActOnCyclo.bits31 (fun HT_ HW_ => ?_)
   generalize w119.drew = w120 at HO431 HO435 HO439 HO445 HO450 HO455 HO462 HO467 BK424 BK425 BK441 BK446 BK451 BK457 HB hHeld ⊢
   refine tk 0 (some 95) HT_ HW_ hHeld ?_ (hy := by rintro w' ⟨s0, s1, s2, s3⟩; go_simp; with_reducible rfl)
   refine tk 2 (some 97) HT_ HW_ hHeld ?_ (hy := by rintro w' ⟨s0, s1, s2, s3⟩; go_simp; with_reducible rfl)
   refine join_ (σ := Value × Value × Value × Nat) 2 #[true, true, true, true, true, true, true, true, true, false, false] (fun s_ => [(96, .agg #[.int .i64 t477, s_.1]), (98, .agg #[.int .i64 t481, s_.2.1]), (99, .tuple #[.agg #[.int .i64 t485, s_.2.2.1], .int .i64 t489]), (15, .pointer (some ⟨s_.2.2.2, 0, none⟩)), (94, .tuple #[.agg #[.int .i64 t485, s_.2.2.1], .int .i64 t489]), (100, .agg #[.int .i64 t485, s_.2.2.1]), (101, .int .i64 t489)]) (fun s_ w' => (w'.cell? ⟨gb424, 0, none⟩ = some (.int .i64 a0_0) ∧ w'.cell? ⟨gb424, 1, none⟩ = some (.slice A0_1 l0_1.length c0_1) ∧ w'.cell? ⟨gb425, 0, none⟩ = some (.int .i64 a1_0) ∧ w'.cell? ⟨gb425, 1, none⟩ = some (.slice A1_1 l1_1.length c1_1)) ∧ (Kd.R (Kd.int .i64) 2 w' w.heap.size (fun k_ => some k_ ≠ (v434 : Value).ownBlock ∧ some k_ ≠ (.slice Ao68 t437.length co68 : Value).ownBlock ∧ some k_ ≠ (.slice Ao78 t443.length co78 : Value).ownBlock ∧ some k_ ≠ (.slice Ao88 t448.length co88 : Value).ownBlock ∧ some k_ ≠ (.slice Ao98 t453.length co98 : Value).ownBlock ∧ some k_ ≠ (.slice Ao103 t460.length co103 : Value).ownBlock ∧ some k_ ≠ (.slice Ao107 t465.length co107 : Value).ownBlock ∧ some k_ ≠ (s_.1 : Value).ownBlock ∧ some k_ ≠ (s_.2.1 : Value).ownBlock ∧ some k_ ≠ (s_.2.2.1 : Value).ownBlock) v430 t429) ∧ (Kd.R (Kd.int .i64) 2 w' w.heap.size (fun k_ => some k_ ≠ (v430 : Value).ownBlock ∧ some k_ ≠ (.slice Ao68 t437.length co68 : Value).ownBlock ∧ some k_ ≠ (.slice Ao78 t443.length co78 : Value).ownBlock ∧ some k_ ≠ (.slice Ao88 t448.length co88 : Value).ownBlock ∧ some k_ ≠ (.slice Ao98 t453.length co98 : Value).ownBlock ∧ some k_ ≠ (.slice Ao103 t460.length co103 : Value).ownBlock ∧ some k_ ≠ (.slice Ao107 t465.length co107 : Value).ownBlock ∧ some k_ ≠ (s_.1 : Value).ownBlock ∧ some k_ ≠ (s_.2.1 : Value).ownBlock ∧ some k_ ≠ (s_.2.2.1 : Value).ownBlock) v434 t433) ∧ (Kd.R (Kd.int .i64) 2 w' w.heap.size (fun k_ => some k_ ≠ (v430 : Value).ownBlock ∧ some k_ ≠ (v434 : Value).ownBlock ∧ some k_ ≠ (.slice Ao78 t443.length co78 : Value).ownBlock ∧ some k_ ≠ (.slice Ao88 t448.length co88 : Value).ownBlock ∧ some k_ ≠ (.slice Ao98 t453.length co98 : Value).ownBlock ∧ some k_ ≠ (.slice Ao103 t460.length co103 : Value).ownBlock ∧ some k_ ≠ (.slice Ao107 t465.length co107 : Value).ownBlock ∧ some k_ ≠ (s_.1 : Value).ownBlock ∧ some k_ ≠ (s_.2.1 : Value).ownBlock ∧ some k_ ≠ (s_.2.2.1 : Value).ownBlock) (.slice Ao68 t437.length co68) t437) ∧ (Kd.R (Kd.int .i64) 2 w' w.heap.size (fun k_ => some k_ ≠ (v430 : Value).ownBlock ∧ some k_ ≠ (v434 : Value).ownBlock ∧ some k_ ≠ (.slice Ao68 t437.length co68 : Value).ownBlock ∧ some k_ ≠ (.slice Ao88 t448.length co88 : Value).ownBlock ∧ some k_ ≠ (.slice Ao98 t453.length co98 : Value).ownBlock ∧ some k_ ≠ (.slice Ao103 t460.length co103 : Value).ownBlock ∧ some k_ ≠ (.slice Ao107 t465.length co107 : Value).ownBlock ∧ some k_ ≠ (s_.1 : Value).ownBlock ∧ some k_ ≠ (s_.2.1 : Value).ownBlock ∧ some k_ ≠ (s_.2.2.1 : Value).ownBlock) (.slice Ao78 t443.length co78) t470) ∧ (Kd.R (Kd.int .i64) 2 w' w.heap.size (fun k_ => some k_ ≠ (v430 : Value).ownBlock ∧ some k_ ≠ (v434 : Value).ownBlock ∧ some k_ ≠ (.slice Ao68 t437.length co68 : Value).ownBlock ∧ some k_ ≠ (.slice Ao78 t443.length co78 : Value).ownBlock ∧ some k_ ≠ (.slice Ao98 t453.length co98 : Value).ownBlock ∧ some k_ ≠ (.slice Ao103 t460.length co103 : Value).ownBlock ∧ some k_ ≠ (.slice Ao107 t465.length co107 : Value).ownBlock ∧ some k_ ≠ (s_.1 : Value).ownBlock ∧ some k_ ≠ (s_.2.1 : Value).ownBlock ∧ some k_ ≠ (s_.2.2.1 : Value).ownBlock) (.slice Ao88 t448.length co88) t472) ∧ (Kd.R (Kd.int .i64) 2 w' w.heap.size (fun k_ => some k_ ≠ (v430 : Value).ownBlock ∧ some k_ ≠ (v434 : Value).ownBlock ∧ some k_ ≠ (.slice Ao68 t437.length co68 : Value).ownBlock ∧ some k_ ≠ (.slice Ao78 t443.length co78 : Value).ownBlock ∧ some k_ ≠ (.slice Ao88 t448.length co88 : Value).ownBlock ∧ some k_ ≠ (.slice Ao103 t460.length co103 : Value).ownBlock ∧ some k_ ≠ (.slice Ao107 t465.length co107 : Value).ownBlock ∧ some k_ ≠ (s_.1 : Value).ownBlock ∧ some k_ ≠ (s_.2.1 : Value).ownBlock ∧ some k_ ≠ (s_.2.2.1 : Value).ownBlock) (.slice Ao98 t453.length co98) t475) ∧ (Kd.R (Kd.int .i64) 2 w' w.heap.size (fun k_ => some k_ ≠ (v430 : Value).ownBlock ∧ some k_ ≠ (v434 : Value).ownBlock ∧ some k_ ≠ (.slice Ao68 t437.length co68 : Value).ownBlock ∧ some k_ ≠ (.slice Ao78 t443.length co78 : Value).ownBlock ∧ some k_ ≠ (.slice Ao88 t448.length co88 : Value).ownBlock ∧ some k_ ≠ (.slice Ao98 t453.length co98 : Value).ownBlock ∧ some k_ ≠ (.slice Ao107 t465.length co107 : Value).ownBlock ∧ some k_ ≠ (s_.1 : Value).ownBlock ∧ some k_ ≠ (s_.2.1 : Value).ownBlock ∧ some k_ ≠ (s_.2.2.1 : Value).ownBlock) (.slice Ao103 t460.length co103) t460) ∧ (Kd.R (Kd.int .i64) 2 w' w.heap.size (fun k_ => some k_ ≠ (v430 : Value).ownBlock ∧ some k_ ≠ (v434 : Value).ownBlock ∧ some k_ ≠ (.slice Ao68 t437.length co68 : Value).ownBlock ∧ some k_ ≠ (.slice Ao78 t443.length co78 : Value).ownBlock ∧ some k_ ≠ (.slice Ao88 t448.length co88 : Value).ownBlock ∧ some k_ ≠ (.slice Ao98 t453.length co98 : Value).ownBlock ∧ some k_ ≠ (.slice Ao103 t460.length co103 : Value).ownBlock ∧ some k_ ≠ (s_.1 : Value).ownBlock ∧ some k_ ≠ (s_.2.1 : Value).ownBlock ∧ some k_ ≠ (s_.2.2.1 : Value).ownBlock) (.slice Ao107 t465.length co107) t465) ∧ (Kd.R (Kd.int .i64) 2 w' w.heap.size (fun k_ => some k_ ≠ (v430 : Value).ownBlock ∧ some k_ ≠ (v434 : Value).ownBlock ∧ some k_ ≠ (.slice Ao68 t437.length co68 : Value).ownBlock ∧ some k_ ≠ (.slice Ao78 t443.length co78 : Value).ownBlock ∧ some k_ ≠ (.slice Ao88 t448.length co88 : Value).ownBlock ∧ some k_ ≠ (.slice Ao98 t453.length co98 : Value).ownBlock ∧ some k_ ≠ (.slice Ao103 t460.length co103 : Value).ownBlock ∧ some k_ ≠ (.slice Ao107 t465.length co107 : Value).ownBlock ∧ some k_ ≠ (s_.2.1 : Value).ownBlock ∧ some k_ ≠ (s_.2.2.1 : Value).ownBlock) s_.1 t478) ∧ (Kd.R (Kd.int .i64) 2 w' w.heap.size (fun k_ => some k_ ≠ (v430 : Value).ownBlock ∧ some k_ ≠ (v434 : Value).ownBlock ∧ some k_ ≠ (.slice Ao68 t437.length co68 : Value).ownBlock ∧ some k_ ≠ (.slice Ao78 t443.length co78 : Value).ownBlock ∧ some k_ ≠ (.slice Ao88 t448.length co88 : Value).ownBlock ∧ some k_ ≠ (.slice Ao98 t453.length co98 : Value).ownBlock ∧ some k_ ≠ (.slice Ao103 t460.length co103 : Value).ownBlock ∧ some k_ ≠ (.slice Ao107 t465.length co107 : Value).ownBlock ∧ some k_ ≠ (s_.1 : Value).ownBlock ∧ some k_ ≠ (s_.2.2.1 : Value).ownBlock) s_.2.1 t482) ∧ (Kd.R (Kd.int .i64) 2 w' w.heap.size (fun k_ => some k_ ≠ (v430 : Value).ownBlock ∧ some k_ ≠ (v434 : Value).ownBlock ∧ some k_ ≠ (.slice Ao68 t437.length co68 : Value).ownBlock ∧ some k_ ≠ (.slice Ao78 t443.length co78 : Value).ownBlock ∧ some k_ ≠ (.slice Ao88 t448.length co88 : Value).ownBlock ∧ some k_ ≠ (.slice Ao98 t453.length co98 : Value).ownBlock ∧ some k_ ≠ (.slice Ao103 t460.length co103 : Value).ownBlock ∧ some k_ ≠ (.slice Ao107 t465.length co107 : Value).ownBlock ∧ some k_ ≠ (s_.1 : Value).ownBlock ∧ some k_ ≠ (s_.2.1 : Value).ownBlock) s_.2.2.1 t486) ∧ (w'.heap[gb424]? = some (.cells #[.int .i64 a0_0, .slice A0_1 l0_1.length c0_1] 24 (0, 0))) ∧ (w'.heap[gb425]? = some (.cells #[.int .i64 a1_0, .slice A1_1 l1_1.length c1_1] 26 (0, 0))) ∧ (w'.heap[gb441]? = some (.cells #[.int .i64 t436, .slice Ao68 t437.length co68] 29 (0, 0))) ∧ (w'.heap[gb446]? = some (.cells #[.int .i64 t442, .slice Ao78 t443.length co78] 32 (0, 0))) ∧ (w'.heap[gb451]? = some (.cells #[.int .i64 t447, .slice Ao88 t448.length co88] 29 (0, 0))) ∧ (w'.heap[gb457]? = some (.cells #[.int .i64 t452, .slice Ao98 t453.length co98] 29 (0, 0))) ∧ (w'.heap[s_.2.2.2]? = some (.cells #[.int .i64 0, .slice none 0 0] 29 (0, 0))) ∧ (w.heap.size ≤ s_.2.2.2) ∧ (w.heap.size ≤ s_.2.2.2) ∧ (gb424 ≠ s_.2.2.2) ∧ (s_.2.2.2 ≠ gb424) ∧ (gb425 ≠ s_.2.2.2) ∧ (s_.2.2.2 ≠ gb425) ∧ (gb441 ≠ s_.2.2.2) ∧ (s_.2.2.2 ≠ gb441) ∧ (gb446 ≠ s_.2.2.2) ∧ (s_.2.2.2 ≠ gb446) ∧ (gb451 ≠ s_.2.2.2) ∧ (s_.2.2.2 ≠ gb451) ∧ (gb457 ≠ s_.2.2.2) ∧ (s_.2.2.2 ≠ gb457) ∧ (Below w.heap.size w w')) ?_ ?_
   rotate_left
   ·intro hCont
    refine two_ (i := 1) (j := 8) (Ni := some 96) (Nj := some 15) #[true, true, true, false, false, false, false, false, false, false, false] #[true, false, true, false, false, false, false, false, true, false, false] rfl rfl rfl rfl (two_of HT_.out (by kernel_rfl)) (by decide) (by decide) (fun K hK => ?_) (fun K hK => ?_)
    ·skip
     refine gs Try.func14 #[.agg #[.int .i64 a0_0, .slice A0_1 l0_1.length c0_1]] ?_
     with_reducible refine (laws_toRing.calls k a0_0 _ _ l0_1 t477 t478 _ ?side1 ?side2 A43.out).mono ?_
     (case side1 => repeat (first | exact (Kd.C_below HR0_1.out HB.out) | (with_reducible refine Kd.C_alloc ?_ _) | (with_reducible refine Kd.C_drewN ?_ _) | (with_reducible refine Kd.C_drew ?_)))
     (case side2 => exact HC0_1.out)
     rintro e w121 ⟨v479, rfl, ho0, hb⟩
     refine ⟨_, rfl, ?_⟩
     have HO480 := Aside0.mk (Kd.R_lower (Kd.R_new' (Kd.R_new' (Kd.R_new' (Kd.R_new' (Kd.R_new' (Kd.R_new' (Kd.R_new' (Kd.R_new' ho0 (Kd.R_lt (rk HO431.out))) (Kd.R_lt (rk HO435.out))) (Kd.R_lt (rk HO439.out))) (Kd.R_lt (rk HO445.out))) (Kd.R_lt (rk HO450.out))) (Kd.R_lt (rk HO455.out))) (Kd.R_lt (rk HO462.out))) (Kd.R_lt (rk HO467.out))) (below_size (bks HB.out)))
     replace HO431 := re HO431 ho0 hb
     replace HO435 := re HO435 ho0 hb
     replace HO439 := re HO439 ho0 hb
     replace HO445 := re HO445 ho0 hb
     replace HO450 := re HO450 ho0 hb
     replace HO455 := re HO455 ho0 hb
     replace HO462 := re HO462 ho0 hb
     replace HO467 := re HO467 ho0 hb
     replace BK424 := bb BK424 hb
     replace BK425 := bb BK425 hb
     replace BK441 := bb BK441 hb
     replace BK446 := bb BK446 hb
     replace BK451 := bb BK451 hb
     replace BK457 := bb BK457 hb
     replace HB := hs HB hb
     (try clear hb ho0)
     refine hK.out _ _ ⟨(blk_cell BK424.out 0).trans rfl, (blk_cell BK424.out 1).trans rfl, (blk_cell BK425.out 0).trans rfl, (blk_cell BK425.out 1).trans rfl⟩ (fun hHeld => ?_)
     clear hK K
     refine nm ?_
     refine two_ (i := 3) (j := 8) (Ni := some 98) (Nj := some 15) #[true, true, true, true, false, false, false, false, false, false, false] #[true, true, true, false, false, false, false, false, true, false, false] rfl rfl rfl rfl (two_of HT_.out (by kernel_rfl)) (by decide) (by decide) (fun K hK => ?_) (fun K hK => ?_)
     ·skip
      refine gs Try.func15 #[.agg #[.int .i64 a1_0, .slice A1_1 l1_1.length c1_1]] ?_
      with_reducible refine (laws_toCyclo.calls k a1_0 _ _ l1_1 t481 t482 _ ?side1 ?side2 A44.out).mono ?_
      (case side1 => repeat (first | exact (Kd.C_below HR1_1.out HB.out) | (with_reducible refine Kd.C_alloc ?_ _) | (with_reducible refine Kd.C_drewN ?_ _) | (with_reducible refine Kd.C_drew ?_)))
      (case side2 => exact HC1_1.out)
      rintro e w122 ⟨v483, rfl, ho0, hb⟩
      refine ⟨_, rfl, ?_⟩
      have HO484 := Aside0.mk (Kd.R_lower (Kd.R_new' (Kd.R_new' (Kd.R_new' (Kd.R_new' (Kd.R_new' (Kd.R_new' (Kd.R_new' (Kd.R_new' (Kd.R_new' ho0 (Kd.R_lt (rk HO431.out))) (Kd.R_lt (rk HO435.out))) (Kd.R_lt (rk HO439.out))) (Kd.R_lt (rk HO445.out))) (Kd.R_lt (rk HO450.out))) (Kd.R_lt (rk HO455.out))) (Kd.R_lt (rk HO462.out))) (Kd.R_lt (rk HO467.out))) (Kd.R_lt (rk HO480.out))) (below_size (bks HB.out)))
      replace HO431 := re HO431 ho0 hb
      replace HO435 := re HO435 ho0 hb
      replace HO439 := re HO439 ho0 hb
      replace HO445 := re HO445 ho0 hb
      replace HO450 := re HO450 ho0 hb
      replace HO455 := re HO455 ho0 hb
      replace HO462 := re HO462 ho0 hb
      replace HO467 := re HO467 ho0 hb
      replace HO480 := re HO480 ho0 hb
      replace BK424 := bb BK424 hb
      replace BK425 := bb BK425 hb
      replace BK441 := bb BK441 hb
      replace BK446 := bb BK446 hb
      replace BK451 := bb BK451 hb
      replace BK457 := bb BK457 hb
      replace HB := hs HB hb
      (try clear hb ho0)
      obtain ⟨Ao123, co123, eo123⟩ := Kd.R_slice HO480.out
      (first | subst eo123 | (injection eo123 with f1_ f2_ f3_; have f4_ := f1_.symm; have f5_ := f3_.symm; clear f1_ f2_ f3_; subst f4_; subst f5_))
      obtain ⟨Ao124, co124, eo124⟩ := Kd.R_slice HO484.out
      (first | subst eo124 | (injection eo124 with f1_ f2_ f3_; have f4_ := f1_.symm; have f5_ := f3_.symm; clear f1_ f2_ f3_; subst f4_; subst f5_))
      refine hK.out _ _ ⟨(blk_cell BK424.out 0).trans rfl, (blk_cell BK424.out 1).trans rfl, (blk_cell BK425.out 0).trans rfl, (blk_cell BK425.out 1).trans rfl⟩ (fun hHeld => ?_)
      clear hK K
      refine nm ?_
      refine two_ (i := 4) (j := 8) (Ni := some 99) (Nj := some 15) #[true, true, true, true, true, false, false, false, false, false, false] #[true, true, true, true, false, false, false, false, true, false, false] rfl rfl rfl rfl (two_of HT_.out (by kernel_rfl)) (by decide) (by decide) (fun K hK => ?_) (fun K hK => ?_)
      ·skip
       refine gs Try.func16 #[.agg #[.int .i64 t477, .slice Ao123 t478.length co123], .agg #[.int .i64 t481, .slice Ao124 t482.length co124]] ?_
       with_reducible refine (impl_ActOnCyclo.calls k t477 _ _ t478 t481 _ _ t482 t485 t486 t489 _ ?side1 ?side2 ?side3 ?side4 A45.out).mono ?_
       (case side1 => repeat (first | exact (Kd.R_reads' HO480.out).2.2 | (with_reducible refine Kd.C_alloc ?_ _) | (with_reducible refine Kd.C_drewN ?_ _) | (with_reducible refine Kd.C_drew ?_)))
       (case side2 => exact (Kd.R_reads' HO480.out).2.1)
       (case side3 => repeat (first | exact (Kd.R_reads' HO484.out).2.2 | (with_reducible refine Kd.C_alloc ?_ _) | (with_reducible refine Kd.C_drewN ?_ _) | (with_reducible refine Kd.C_drew ?_)))
       (case side4 => exact (Kd.R_reads' HO484.out).2.1)
       rintro e w125 ⟨v487, rfl, ho0, hb⟩
       refine ⟨_, rfl, ?_⟩
       have HO488 := Aside0.mk (Kd.R_lower (Kd.R_new' (Kd.R_new' (Kd.R_new' (Kd.R_new' (Kd.R_new' (Kd.R_new' (Kd.R_new' (Kd.R_new' (Kd.R_new' (Kd.R_new' ho0 (Kd.R_lt (rk HO431.out))) (Kd.R_lt (rk HO435.out))) (Kd.R_lt (rk HO439.out))) (Kd.R_lt (rk HO445.out))) (Kd.R_lt (rk HO450.out))) (Kd.R_lt (rk HO455.out))) (Kd.R_lt (rk HO462.out))) (Kd.R_lt (rk HO467.out))) (Kd.R_lt (rk HO480.out))) (Kd.R_lt (rk HO484.out))) (below_size (bks HB.out)))
       replace HO431 := re HO431 ho0 hb
       replace HO435 := re HO435 ho0 hb
       replace HO439 := re HO439 ho0 hb
       replace HO445 := re HO445 ho0 hb
       replace HO450 := re HO450 ho0 hb
       replace HO455 := re HO455 ho0 hb
       replace HO462 := re HO462 ho0 hb
       replace HO467 := re HO467 ho0 hb
       replace HO480 := re HO480 ho0 hb
       replace HO484 := re HO484 ho0 hb
       replace BK424 := bb BK424 hb
       replace BK425 := bb BK425 hb
       replace BK441 := bb BK441 hb
       replace BK446 := bb BK446 hb
       replace BK451 := bb BK451 hb
       replace BK457 := bb BK457 hb
       replace HB := hs HB hb
       (try clear hb ho0)
       refine hK.out _ _ ⟨(blk_cell BK424.out 0).trans rfl, (blk_cell BK424.out 1).trans rfl, (blk_cell BK425.out 0).trans rfl, (blk_cell BK425.out 1).trans rfl⟩ (fun hHeld => ?_)
       clear hK K
       refine nm ?_
       refine pu 5 (some 94) HT_ ?_
       refine pu 6 (some 100) HT_ ?_
       refine pu 7 (some 101) HT_ ?_
       refine on 8 (some 15) HT_ (fun K hK => ?_)
       refine bs 15 #[.int .i64 0, .slice none 0 0] 29 (fun gb490 hg w126 hbox hb => ?_)
       have BK490 := Aside0.mk hbox
       have GW490 := ge HB hg
       have GE490 := GW490
       obtain ⟨NB424_490, NB490_424⟩ := nb BK424 hg
       obtain ⟨NB425_490, NB490_425⟩ := nb BK425 hg
       obtain ⟨NB441_490, NB490_441⟩ := nb BK441 hg
       obtain ⟨NB446_490, NB490_446⟩ := nb BK446 hg
       obtain ⟨NB451_490, NB490_451⟩ := nb BK451 hg
       obtain ⟨NB457_490, NB490_457⟩ := nb BK457 hg
       replace HO431 := rb HO431 hb
       replace HO435 := rb HO435 hb
       replace HO439 := rb HO439 hb
       replace HO445 := rb HO445 hb
       replace HO450 := rb HO450 hb
       replace HO455 := rb HO455 hb
       replace HO462 := rb HO462 hb
       replace HO467 := rb HO467 hb
       replace HO480 := rb HO480 hb
       replace HO484 := rb HO484 hb
       replace HO488 := rb HO488 hb
       replace BK424 := bb BK424 hb
       replace BK425 := bb BK425 hb
       replace BK441 := bb BK441 hb
       replace BK446 := bb BK446 hb
       replace BK451 := bb BK451 hb
       replace BK457 := bb BK457 hb
       replace HB := hs HB hb
       clear hb hbox hg
       refine hK.out _ _ ⟨(blk_cell BK424.out 0).trans rfl, (blk_cell BK424.out 1).trans rfl, (blk_cell BK425.out 0).trans rfl, (blk_cell BK425.out 1).trans rfl⟩ (fun hHeld => ?_)
       clear hK K
       refine nm ?_
       exact np (hCont (.slice Ao123 t478.length co123, .slice Ao124 t482.length co124, v487, gb490) _ ⟨hHeld, (rk (Kd.R_mono HO431.out (fun _ hk => ⟨hk.1.1.1.1, ⟨hk.1.1.1.2.1, ⟨hk.1.1.1.2.2.1, ⟨hk.1.1.1.2.2.2.1, ⟨hk.1.1.1.2.2.2.2.1, ⟨hk.1.1.1.2.2.2.2.2.1, ⟨hk.1.1.1.2.2.2.2.2.2, ⟨hk.1.1.2, ⟨hk.1.2, hk.2⟩⟩⟩⟩⟩⟩⟩⟩⟩))), (rk (Kd.R_mono HO435.out (fun _ hk => ⟨hk.1.1.1.1, ⟨hk.1.1.1.2.1, ⟨hk.1.1.1.2.2.1, ⟨hk.1.1.1.2.2.2.1, ⟨hk.1.1.1.2.2.2.2.1, ⟨hk.1.1.1.2.2.2.2.2.1, ⟨hk.1.1.1.2.2.2.2.2.2, ⟨hk.1.1.2, ⟨hk.1.2, hk.2⟩⟩⟩⟩⟩⟩⟩⟩⟩))), (rk (Kd.R_mono HO439.out (fun _ hk => ⟨hk.1.1.1.1, ⟨hk.1.1.1.2.1, ⟨hk.1.1.1.2.2.1, ⟨hk.1.1.1.2.2.2.1, ⟨hk.1.1.1.2.2.2.2.1, ⟨hk.1.1.1.2.2.2.2.2.1, ⟨hk.1.1.1.2.2.2.2.2.2, ⟨hk.1.1.2, ⟨hk.1.2, hk.2⟩⟩⟩⟩⟩⟩⟩⟩⟩))), (rk (Kd.R_mono HO445.out (fun _ hk => ⟨hk.1.1.1.1, ⟨hk.1.1.1.2.1, ⟨hk.1.1.1.2.2.1, ⟨hk.1.1.1.2.2.2.1, ⟨hk.1.1.1.2.2.2.2.1, ⟨hk.1.1.1.2.2.2.2.2.1, ⟨hk.1.1.1.2.2.2.2.2.2, ⟨hk.1.1.2, ⟨hk.1.2, hk.2⟩⟩⟩⟩⟩⟩⟩⟩⟩))), (rk (Kd.R_mono HO450.out (fun _ hk => ⟨hk.1.1.1.1, ⟨hk.1.1.1.2.1, ⟨hk.1.1.1.2.2.1, ⟨hk.1.1.1.2.2.2.1, ⟨hk.1.1.1.2.2.2.2.1, ⟨hk.1.1.1.2.2.2.2.2.1, ⟨hk.1.1.1.2.2.2.2.2.2, ⟨hk.1.1.2, ⟨hk.1.2, hk.2⟩⟩⟩⟩⟩⟩⟩⟩⟩))), (rk (Kd.R_mono HO455.out (fun _ hk => ⟨hk.1.1.1.1, ⟨hk.1.1.1.2.1, ⟨hk.1.1.1.2.2.1, ⟨hk.1.1.1.2.2.2.1, ⟨hk.1.1.1.2.2.2.2.1, ⟨hk.1.1.1.2.2.2.2.2.1, ⟨hk.1.1.1.2.2.2.2.2.2, ⟨hk.1.1.2, ⟨hk.1.2, hk.2⟩⟩⟩⟩⟩⟩⟩⟩⟩))), (rk (Kd.R_mono HO462.out (fun _ hk => ⟨hk.1.1.1.1, ⟨hk.1.1.1.2.1, ⟨hk.1.1.1.2.2.1, ⟨hk.1.1.1.2.2.2.1, ⟨hk.1.1.1.2.2.2.2.1, ⟨hk.1.1.1.2.2.2.2.2.1, ⟨hk.1.1.1.2.2.2.2.2.2, ⟨hk.1.1.2, ⟨hk.1.2, hk.2⟩⟩⟩⟩⟩⟩⟩⟩⟩))), (rk (Kd.R_mono HO467.out (fun _ hk => ⟨hk.1.1.1.1, ⟨hk.1.1.1.2.1, ⟨hk.1.1.1.2.2.1, ⟨hk.1.1.1.2.2.2.1, ⟨hk.1.1.1.2.2.2.2.1, ⟨hk.1.1.1.2.2.2.2.2.1, ⟨hk.1.1.1.2.2.2.2.2.2, ⟨hk.1.1.2, ⟨hk.1.2, hk.2⟩⟩⟩⟩⟩⟩⟩⟩⟩))), (rk (Kd.R_mono HO480.out (fun _ hk => ⟨hk.1.1.1.1.1.1.1.1.1.2, ⟨hk.1.1.1.1.1.1.1.1.2, ⟨hk.1.1.1.1.1.1.1.2, ⟨hk.1.1.1.1.1.1.2, ⟨hk.1.1.1.1.1.2, ⟨hk.1.1.1.1.2, ⟨hk.1.1.1.2, ⟨hk.1.1.2, ⟨hk.1.2, hk.2⟩⟩⟩⟩⟩⟩⟩⟩⟩))), (rk (Kd.R_mono HO484.out (fun _ hk => ⟨hk.1.1.1.1.1.1.1.1.1.2, ⟨hk.1.1.1.1.1.1.1.1.2, ⟨hk.1.1.1.1.1.1.1.2, ⟨hk.1.1.1.1.1.1.2, ⟨hk.1.1.1.1.1.2, ⟨hk.1.1.1.1.2, ⟨hk.1.1.1.2, ⟨hk.1.1.2, ⟨hk.1.2, hk.2⟩⟩⟩⟩⟩⟩⟩⟩⟩))), (rk (Kd.R_mono HO488.out (fun _ hk => ⟨hk.1.1.1.1.1.1.1.1.1.2, ⟨hk.1.1.1.1.1.1.1.1.2, ⟨hk.1.1.1.1.1.1.1.2, ⟨hk.1.1.1.1.1.1.2, ⟨hk.1.1.1.1.1.2, ⟨hk.1.1.1.1.2, ⟨hk.1.1.1.2, ⟨hk.1.1.2, ⟨hk.1.2, hk.2⟩⟩⟩⟩⟩⟩⟩⟩⟩))), (pk BK424.out), (pk BK425.out), (pk BK441.out), (pk BK446.out), (pk BK451.out), (pk BK457.out), (pk BK490.out), GW490.out, GE490.out, NB424_490.out, NB490_424.out, NB425_490.out, NB490_425.out, NB441_490.out, NB490_441.out, NB446_490.out, NB490_446.out, NB451_490.out, NB490_451.out, NB457_490.out, NB490_457.out, (bks HB.out)⟩)
      ·skip
       refine bs 15 #[.int .i64 0, .slice none 0 0] 29 (fun gb490 hg w123 hbox hb => ?_)
       have BK490 := Aside0.mk hbox
       have GW490 := ge HB hg
       have GE490 := GW490
       obtain ⟨NB424_490, NB490_424⟩ := nb BK424 hg
       obtain ⟨NB425_490, NB490_425⟩ := nb BK425 hg
       obtain ⟨NB441_490, NB490_441⟩ := nb BK441 hg
       obtain ⟨NB446_490, NB490_446⟩ := nb BK446 hg
       obtain ⟨NB451_490, NB490_451⟩ := nb BK451 hg
       obtain ⟨NB457_490, NB490_457⟩ := nb BK457 hg
       replace HO431 := rb HO431 hb
       replace HO435 := rb HO435 hb
       replace HO439 := rb HO439 hb
       replace HO445 := rb HO445 hb
       replace HO450 := rb HO450 hb
       replace HO455 := rb HO455 hb
       replace HO462 := rb HO462 hb
       replace HO467 := rb HO467 hb
       replace HO480 := rb HO480 hb
       replace HO484 := rb HO484 hb
       replace BK424 := bb BK424 hb
       replace BK425 := bb BK425 hb
       replace BK441 := bb BK441 hb
       replace BK446 := bb BK446 hb
       replace BK451 := bb BK451 hb
       replace BK457 := bb BK457 hb
       replace HB := hs HB hb
       clear hb hbox hg
       obtain ⟨Ao124, co124, eo124⟩ := Kd.R_slice HO480.out
       (first | subst eo124 | (injection eo124 with f1_ f2_ f3_; have f4_ := f1_.symm; have f5_ := f3_.symm; clear f1_ f2_ f3_; subst f4_; subst f5_))
       obtain ⟨Ao125, co125, eo125⟩ := Kd.R_slice HO484.out
       (first | subst eo125 | (injection eo125 with f1_ f2_ f3_; have f4_ := f1_.symm; have f5_ := f3_.symm; clear f1_ f2_ f3_; subst f4_; subst f5_))
       refine hK.out _ _ ⟨(blk_cell BK424.out 0).trans rfl, (blk_cell BK424.out 1).trans rfl, (blk_cell BK425.out 0).trans rfl, (blk_cell BK425.out 1).trans rfl⟩ (fun hHeld => ?_)
       clear hK K
       refine nm ?_
       refine on 4 (some 99) HT_ (fun K hK => ?_)
       refine gs Try.func16 #[.agg #[.int .i64 t477, .slice Ao124 t478.length co124], .agg #[.int .i64 t481, .slice Ao125 t482.length co125]] ?_
       with_reducible refine (impl_ActOnCyclo.calls k t477 _ _ t478 t481 _ _ t482 t485 t486 t489 _ ?side1 ?side2 ?side3 ?side4 A45.out).mono ?_
       (case side1 => repeat (first | exact (Kd.R_reads' HO480.out).2.2 | (with_reducible refine Kd.C_alloc ?_ _) | (with_reducible refine Kd.C_drewN ?_ _) | (with_reducible refine Kd.C_drew ?_)))
       (case side2 => exact (Kd.R_reads' HO480.out).2.1)
       (case side3 => repeat (first | exact (Kd.R_reads' HO484.out).2.2 | (with_reducible refine Kd.C_alloc ?_ _) | (with_reducible refine Kd.C_drewN ?_ _) | (with_reducible refine Kd.C_drew ?_)))
       (case side4 => exact (Kd.R_reads' HO484.out).2.1)
       rintro e w126 ⟨v487, rfl, ho0, hb⟩
       refine ⟨_, rfl, ?_⟩
       have HO488 := Aside0.mk (Kd.R_lower (Kd.R_new' (Kd.R_new' (Kd.R_new' (Kd.R_new' (Kd.R_new' (Kd.R_new' (Kd.R_new' (Kd.R_new' (Kd.R_new' (Kd.R_new' ho0 (Kd.R_lt (rk HO431.out))) (Kd.R_lt (rk HO435.out))) (Kd.R_lt (rk HO439.out))) (Kd.R_lt (rk HO445.out))) (Kd.R_lt (rk HO450.out))) (Kd.R_lt (rk HO455.out))) (Kd.R_lt (rk HO462.out))) (Kd.R_lt (rk HO467.out))) (Kd.R_lt (rk HO480.out))) (Kd.R_lt (rk HO484.out))) (below_size (bks HB.out)))
       replace HO431 := re HO431 ho0 hb
       replace HO435 := re HO435 ho0 hb
       replace HO439 := re HO439 ho0 hb
       replace HO445 := re HO445 ho0 hb
       replace HO450 := re HO450 ho0 hb
       replace HO455 := re HO455 ho0 hb
       replace HO462 := re HO462 ho0 hb
       replace HO467 := re HO467 ho0 hb
       replace HO480 := re HO480 ho0 hb
       replace HO484 := re HO484 ho0 hb
       replace BK424 := bb BK424 hb
       replace BK425 := bb BK425 hb
       replace BK441 := bb BK441 hb
       replace BK446 := bb BK446 hb
       replace BK451 := bb BK451 hb
       replace BK457 := bb BK457 hb
       replace BK490 := bb BK490 hb
       replace HB := hs HB hb
       (try clear hb ho0)
       refine hK.out _ _ ⟨(blk_cell BK424.out 0).trans rfl, (blk_cell BK424.out 1).trans rfl, (blk_cell BK425.out 0).trans rfl, (blk_cell BK425.out 1).trans rfl⟩ (fun hHeld => ?_)
       clear hK K
       refine nm ?_
       refine pu 5 (some 94) HT_ ?_
       refine pu 6 (some 100) HT_ ?_
       refine pu 7 (some 101) HT_ ?_
       exact np (hCont (.slice Ao124 t478.length co124, .slice Ao125 t482.length co125, v487, gb490) _ ⟨hHeld, (rk (Kd.R_mono HO431.out (fun _ hk => ⟨hk.1.1.1.1, ⟨hk.1.1.1.2.1, ⟨hk.1.1.1.2.2.1, ⟨hk.1.1.1.2.2.2.1, ⟨hk.1.1.1.2.2.2.2.1, ⟨hk.1.1.1.2.2.2.2.2.1, ⟨hk.1.1.1.2.2.2.2.2.2, ⟨hk.1.1.2, ⟨hk.1.2, hk.2⟩⟩⟩⟩⟩⟩⟩⟩⟩))), (rk (Kd.R_mono HO435.out (fun _ hk => ⟨hk.1.1.1.1, ⟨hk.1.1.1.2.1, ⟨hk.1.1.1.2.2.1, ⟨hk.1.1.1.2.2.2.1, ⟨hk.1.1.1.2.2.2.2.1, ⟨hk.1.1.1.2.2.2.2.2.1, ⟨hk.1.1.1.2.2.2.2.2.2, ⟨hk.1.1.2, ⟨hk.1.2, hk.2⟩⟩⟩⟩⟩⟩⟩⟩⟩))), (rk (Kd.R_mono HO439.out (fun _ hk => ⟨hk.1.1.1.1, ⟨hk.1.1.1.2.1, ⟨hk.1.1.1.2.2.1, ⟨hk.1.1.1.2.2.2.1, ⟨hk.1.1.1.2.2.2.2.1, ⟨hk.1.1.1.2.2.2.2.2.1, ⟨hk.1.1.1.2.2.2.2.2.2, ⟨hk.1.1.2, ⟨hk.1.2, hk.2⟩⟩⟩⟩⟩⟩⟩⟩⟩))), (rk (Kd.R_mono HO445.out (fun _ hk => ⟨hk.1.1.1.1, ⟨hk.1.1.1.2.1, ⟨hk.1.1.1.2.2.1, ⟨hk.1.1.1.2.2.2.1, ⟨hk.1.1.1.2.2.2.2.1, ⟨hk.1.1.1.2.2.2.2.2.1, ⟨hk.1.1.1.2.2.2.2.2.2, ⟨hk.1.1.2, ⟨hk.1.2, hk.2⟩⟩⟩⟩⟩⟩⟩⟩⟩))), (rk (Kd.R_mono HO450.out (fun _ hk => ⟨hk.1.1.1.1, ⟨hk.1.1.1.2.1, ⟨hk.1.1.1.2.2.1, ⟨hk.1.1.1.2.2.2.1, ⟨hk.1.1.1.2.2.2.2.1, ⟨hk.1.1.1.2.2.2.2.2.1, ⟨hk.1.1.1.2.2.2.2.2.2, ⟨hk.1.1.2, ⟨hk.1.2, hk.2⟩⟩⟩⟩⟩⟩⟩⟩⟩))), (rk (Kd.R_mono HO455.out (fun _ hk => ⟨hk.1.1.1.1, ⟨hk.1.1.1.2.1, ⟨hk.1.1.1.2.2.1, ⟨hk.1.1.1.2.2.2.1, ⟨hk.1.1.1.2.2.2.2.1, ⟨hk.1.1.1.2.2.2.2.2.1, ⟨hk.1.1.1.2.2.2.2.2.2, ⟨hk.1.1.2, ⟨hk.1.2, hk.2⟩⟩⟩⟩⟩⟩⟩⟩⟩))), (rk (Kd.R_mono HO462.out (fun _ hk => ⟨hk.1.1.1.1, ⟨hk.1.1.1.2.1, ⟨hk.1.1.1.2.2.1, ⟨hk.1.1.1.2.2.2.1, ⟨hk.1.1.1.2.2.2.2.1, ⟨hk.1.1.1.2.2.2.2.2.1, ⟨hk.1.1.1.2.2.2.2.2.2, ⟨hk.1.1.2, ⟨hk.1.2, hk.2⟩⟩⟩⟩⟩⟩⟩⟩⟩))), (rk (Kd.R_mono HO467.out (fun _ hk => ⟨hk.1.1.1.1, ⟨hk.1.1.1.2.1, ⟨hk.1.1.1.2.2.1, ⟨hk.1.1.1.2.2.2.1, ⟨hk.1.1.1.2.2.2.2.1, ⟨hk.1.1.1.2.2.2.2.2.1, ⟨hk.1.1.1.2.2.2.2.2.2, ⟨hk.1.1.2, ⟨hk.1.2, hk.2⟩⟩⟩⟩⟩⟩⟩⟩⟩))), (rk (Kd.R_mono HO480.out (fun _ hk => ⟨hk.1.1.1.1.1.1.1.1.1.2, ⟨hk.1.1.1.1.1.1.1.1.2, ⟨hk.1.1.1.1.1.1.1.2, ⟨hk.1.1.1.1.1.1.2, ⟨hk.1.1.1.1.1.2, ⟨hk.1.1.1.1.2, ⟨hk.1.1.1.2, ⟨hk.1.1.2, ⟨hk.1.2, hk.2⟩⟩⟩⟩⟩⟩⟩⟩⟩))), (rk (Kd.R_mono HO484.out (fun _ hk => ⟨hk.1.1.1.1.1.1.1.1.1.2, ⟨hk.1.1.1.1.1.1.1.1.2, ⟨hk.1.1.1.1.1.1.1.2, ⟨hk.1.1.1.1.1.1.2, ⟨hk.1.1.1.1.1.2, ⟨hk.1.1.1.1.2, ⟨hk.1.1.1.2, ⟨hk.1.1.2, ⟨hk.1.2, hk.2⟩⟩⟩⟩⟩⟩⟩⟩⟩))), (rk (Kd.R_mono HO488.out (fun _ hk => ⟨hk.1.1.1.1.1.1.1.1.1.2, ⟨hk.1.1.1.1.1.1.1.1.2, ⟨hk.1.1.1.1.1.1.1.2, ⟨hk.1.1.1.1.1.1.2, ⟨hk.1.1.1.1.1.2, ⟨hk.1.1.1.1.2, ⟨hk.1.1.1.2, ⟨hk.1.1.2, ⟨hk.1.2, hk.2⟩⟩⟩⟩⟩⟩⟩⟩⟩))), (pk BK424.out), (pk BK425.out), (pk BK441.out), (pk BK446.out), (pk BK451.out), (pk BK457.out), (pk BK490.out), GW490.out, GE490.out, NB424_490.out, NB490_424.out, NB425_490.out, NB490_425.out, NB441_490.out, NB490_441.out, NB446_490.out, NB490_446.out, NB451_490.out, NB490_451.out, NB457_490.out, NB490_457.out, (bks HB.out)⟩)
     ·skip
      refine bs 15 #[.int .i64 0, .slice none 0 0] 29 (fun gb490 hg w122 hbox hb => ?_)
      have BK490 := Aside0.mk hbox
      have GW490 := ge HB hg
      have GE490 := GW490
      obtain ⟨NB424_490, NB490_424⟩ := nb BK424 hg
      obtain ⟨NB425_490, NB490_425⟩ := nb BK425 hg
      obtain ⟨NB441_490, NB490_441⟩ := nb BK441 hg
      obtain ⟨NB446_490, NB490_446⟩ := nb BK446 hg
      obtain ⟨NB451_490, NB490_451⟩ := nb BK451 hg
      obtain ⟨NB457_490, NB490_457⟩ := nb BK457 hg
      replace HO431 := rb HO431 hb
      replace HO435 := rb HO435 hb
      replace HO439 := rb HO439 hb
      replace HO445 := rb HO445 hb
      replace HO450 := rb HO450 hb
      replace HO455 := rb HO455 hb
      replace HO462 := rb HO462 hb
      replace HO467 := rb HO467 hb
      replace HO480 := rb HO480 hb
      replace BK424 := bb BK424 hb
      replace BK425 := bb BK425 hb
      replace BK441 := bb BK441 hb
      replace BK446 := bb BK446 hb
      replace BK451 := bb BK451 hb
      replace BK457 := bb BK457 hb
      replace HB := hs HB hb
      clear hb hbox hg
      refine hK.out _ _ ⟨(blk_cell BK424.out 0).trans rfl, (blk_cell BK424.out 1).trans rfl, (blk_cell BK425.out 0).trans rfl, (blk_cell BK425.out 1).trans rfl⟩ (fun hHeld => ?_)
      clear hK K
      refine nm ?_
      refine on 3 (some 98) HT_ (fun K hK => ?_)
      refine gs Try.func15 #[.agg #[.int .i64 a1_0, .slice A1_1 l1_1.length c1_1]] ?_
      with_reducible refine (laws_toCyclo.calls k a1_0 _ _ l1_1 t481 t482 _ ?side1 ?side2 A44.out).mono ?_
      (case side1 => repeat (first | exact (Kd.C_below HR1_1.out HB.out) | (with_reducible refine Kd.C_alloc ?_ _) | (with_reducible refine Kd.C_drewN ?_ _) | (with_reducible refine Kd.C_drew ?_)))
      (case side2 => exact HC1_1.out)
      rintro e w123 ⟨v483, rfl, ho0, hb⟩
      refine ⟨_, rfl, ?_⟩
      have HO484 := Aside0.mk (Kd.R_lower (Kd.R_new' (Kd.R_new' (Kd.R_new' (Kd.R_new' (Kd.R_new' (Kd.R_new' (Kd.R_new' (Kd.R_new' (Kd.R_new' ho0 (Kd.R_lt (rk HO431.out))) (Kd.R_lt (rk HO435.out))) (Kd.R_lt (rk HO439.out))) (Kd.R_lt (rk HO445.out))) (Kd.R_lt (rk HO450.out))) (Kd.R_lt (rk HO455.out))) (Kd.R_lt (rk HO462.out))) (Kd.R_lt (rk HO467.out))) (Kd.R_lt (rk HO480.out))) (below_size (bks HB.out)))
      replace HO431 := re HO431 ho0 hb
      replace HO435 := re HO435 ho0 hb
      replace HO439 := re HO439 ho0 hb
      replace HO445 := re HO445 ho0 hb
      replace HO450 := re HO450 ho0 hb
      replace HO455 := re HO455 ho0 hb
      replace HO462 := re HO462 ho0 hb
      replace HO467 := re HO467 ho0 hb
      replace HO480 := re HO480 ho0 hb
      replace BK424 := bb BK424 hb
      replace BK425 := bb BK425 hb
      replace BK441 := bb BK441 hb
      replace BK446 := bb BK446 hb
      replace BK451 := bb BK451 hb
      replace BK457 := bb BK457 hb
      replace BK490 := bb BK490 hb
      replace HB := hs HB hb
      (try clear hb ho0)
      obtain ⟨Ao124, co124, eo124⟩ := Kd.R_slice HO480.out
      (first | subst eo124 | (injection eo124 with f1_ f2_ f3_; have f4_ := f1_.symm; have f5_ := f3_.symm; clear f1_ f2_ f3_; subst f4_; subst f5_))
      obtain ⟨Ao125, co125, eo125⟩ := Kd.R_slice HO484.out
      (first | subst eo125 | (injection eo125 with f1_ f2_ f3_; have f4_ := f1_.symm; have f5_ := f3_.symm; clear f1_ f2_ f3_; subst f4_; subst f5_))
      refine hK.out _ _ ⟨(blk_cell BK424.out 0).trans rfl, (blk_cell BK424.out 1).trans rfl, (blk_cell BK425.out 0).trans rfl, (blk_cell BK425.out 1).trans rfl⟩ (fun hHeld => ?_)
      clear hK K
      refine nm ?_
      refine on 4 (some 99) HT_ (fun K hK => ?_)
      refine gs Try.func16 #[.agg #[.int .i64 t477, .slice Ao124 t478.length co124], .agg #[.int .i64 t481, .slice Ao125 t482.length co125]] ?_
      with_reducible refine (impl_ActOnCyclo.calls k t477 _ _ t478 t481 _ _ t482 t485 t486 t489 _ ?side1 ?side2 ?side3 ?side4 A45.out).mono ?_
      (case side1 => repeat (first | exact (Kd.R_reads' HO480.out).2.2 | (with_reducible refine Kd.C_alloc ?_ _) | (with_reducible refine Kd.C_drewN ?_ _) | (with_reducible refine Kd.C_drew ?_)))
      (case side2 => exact (Kd.R_reads' HO480.out).2.1)
      (case side3 => repeat (first | exact (Kd.R_reads' HO484.out).2.2 | (with_reducible refine Kd.C_alloc ?_ _) | (with_reducible refine Kd.C_drewN ?_ _) | (with_reducible refine Kd.C_drew ?_)))
      (case side4 => exact (Kd.R_reads' HO484.out).2.1)
      rintro e w126 ⟨v487, rfl, ho0, hb⟩
      refine ⟨_, rfl, ?_⟩
      have HO488 := Aside0.mk (Kd.R_lower (Kd.R_new' (Kd.R_new' (Kd.R_new' (Kd.R_new' (Kd.R_new' (Kd.R_new' (Kd.R_new' (Kd.R_new' (Kd.R_new' (Kd.R_new' ho0 (Kd.R_lt (rk HO431.out))) (Kd.R_lt (rk HO435.out))) (Kd.R_lt (rk HO439.out))) (Kd.R_lt (rk HO445.out))) (Kd.R_lt (rk HO450.out))) (Kd.R_lt (rk HO455.out))) (Kd.R_lt (rk HO462.out))) (Kd.R_lt (rk HO467.out))) (Kd.R_lt (rk HO480.out))) (Kd.R_lt (rk HO484.out))) (below_size (bks HB.out)))
      replace HO431 := re HO431 ho0 hb
      replace HO435 := re HO435 ho0 hb
      replace HO439 := re HO439 ho0 hb
      replace HO445 := re HO445 ho0 hb
      replace HO450 := re HO450 ho0 hb
      replace HO455 := re HO455 ho0 hb
      replace HO462 := re HO462 ho0 hb
      replace HO467 := re HO467 ho0 hb
      replace HO480 := re HO480 ho0 hb
      replace HO484 := re HO484 ho0 hb
      replace BK424 := bb BK424 hb
      replace BK425 := bb BK425 hb
      replace BK441 := bb BK441 hb
      replace BK446 := bb BK446 hb
      replace BK451 := bb BK451 hb
      replace BK457 := bb BK457 hb
      replace BK490 := bb BK490 hb
      replace HB := hs HB hb
      (try clear hb ho0)
      refine hK.out _ _ ⟨(blk_cell BK424.out 0).trans rfl, (blk_cell BK424.out 1).trans rfl, (blk_cell BK425.out 0).trans rfl, (blk_cell BK425.out 1).trans rfl⟩ (fun hHeld => ?_)
      clear hK K
      refine nm ?_
      refine pu 5 (some 94) HT_ ?_
      refine pu 6 (some 100) HT_ ?_
      refine pu 7 (some 101) HT_ ?_
      exact np (hCont (.slice Ao124 t478.length co124, .slice Ao125 t482.length co125, v487, gb490) _ ⟨hHeld, (rk (Kd.R_mono HO431.out (fun _ hk => ⟨hk.1.1.1.1, ⟨hk.1.1.1.2.1, ⟨hk.1.1.1.2.2.1, ⟨hk.1.1.1.2.2.2.1, ⟨hk.1.1.1.2.2.2.2.1, ⟨hk.1.1.1.2.2.2.2.2.1, ⟨hk.1.1.1.2.2.2.2.2.2, ⟨hk.1.1.2, ⟨hk.1.2, hk.2⟩⟩⟩⟩⟩⟩⟩⟩⟩))), (rk (Kd.R_mono HO435.out (fun _ hk => ⟨hk.1.1.1.1, ⟨hk.1.1.1.2.1, ⟨hk.1.1.1.2.2.1, ⟨hk.1.1.1.2.2.2.1, ⟨hk.1.1.1.2.2.2.2.1, ⟨hk.1.1.1.2.2.2.2.2.1, ⟨hk.1.1.1.2.2.2.2.2.2, ⟨hk.1.1.2, ⟨hk.1.2, hk.2⟩⟩⟩⟩⟩⟩⟩⟩⟩))), (rk (Kd.R_mono HO439.out (fun _ hk => ⟨hk.1.1.1.1, ⟨hk.1.1.1.2.1, ⟨hk.1.1.1.2.2.1, ⟨hk.1.1.1.2.2.2.1, ⟨hk.1.1.1.2.2.2.2.1, ⟨hk.1.1.1.2.2.2.2.2.1, ⟨hk.1.1.1.2.2.2.2.2.2, ⟨hk.1.1.2, ⟨hk.1.2, hk.2⟩⟩⟩⟩⟩⟩⟩⟩⟩))), (rk (Kd.R_mono HO445.out (fun _ hk => ⟨hk.1.1.1.1, ⟨hk.1.1.1.2.1, ⟨hk.1.1.1.2.2.1, ⟨hk.1.1.1.2.2.2.1, ⟨hk.1.1.1.2.2.2.2.1, ⟨hk.1.1.1.2.2.2.2.2.1, ⟨hk.1.1.1.2.2.2.2.2.2, ⟨hk.1.1.2, ⟨hk.1.2, hk.2⟩⟩⟩⟩⟩⟩⟩⟩⟩))), (rk (Kd.R_mono HO450.out (fun _ hk => ⟨hk.1.1.1.1, ⟨hk.1.1.1.2.1, ⟨hk.1.1.1.2.2.1, ⟨hk.1.1.1.2.2.2.1, ⟨hk.1.1.1.2.2.2.2.1, ⟨hk.1.1.1.2.2.2.2.2.1, ⟨hk.1.1.1.2.2.2.2.2.2, ⟨hk.1.1.2, ⟨hk.1.2, hk.2⟩⟩⟩⟩⟩⟩⟩⟩⟩))), (rk (Kd.R_mono HO455.out (fun _ hk => ⟨hk.1.1.1.1, ⟨hk.1.1.1.2.1, ⟨hk.1.1.1.2.2.1, ⟨hk.1.1.1.2.2.2.1, ⟨hk.1.1.1.2.2.2.2.1, ⟨hk.1.1.1.2.2.2.2.2.1, ⟨hk.1.1.1.2.2.2.2.2.2, ⟨hk.1.1.2, ⟨hk.1.2, hk.2⟩⟩⟩⟩⟩⟩⟩⟩⟩))), (rk (Kd.R_mono HO462.out (fun _ hk => ⟨hk.1.1.1.1, ⟨hk.1.1.1.2.1, ⟨hk.1.1.1.2.2.1, ⟨hk.1.1.1.2.2.2.1, ⟨hk.1.1.1.2.2.2.2.1, ⟨hk.1.1.1.2.2.2.2.2.1, ⟨hk.1.1.1.2.2.2.2.2.2, ⟨hk.1.1.2, ⟨hk.1.2, hk.2⟩⟩⟩⟩⟩⟩⟩⟩⟩))), (rk (Kd.R_mono HO467.out (fun _ hk => ⟨hk.1.1.1.1, ⟨hk.1.1.1.2.1, ⟨hk.1.1.1.2.2.1, ⟨hk.1.1.1.2.2.2.1, ⟨hk.1.1.1.2.2.2.2.1, ⟨hk.1.1.1.2.2.2.2.2.1, ⟨hk.1.1.1.2.2.2.2.2.2, ⟨hk.1.1.2, ⟨hk.1.2, hk.2⟩⟩⟩⟩⟩⟩⟩⟩⟩))), (rk (Kd.R_mono HO480.out (fun _ hk => ⟨hk.1.1.1.1.1.1.1.1.1.2, ⟨hk.1.1.1.1.1.1.1.1.2, ⟨hk.1.1.1.1.1.1.1.2, ⟨hk.1.1.1.1.1.1.2, ⟨hk.1.1.1.1.1.2, ⟨hk.1.1.1.1.2, ⟨hk.1.1.1.2, ⟨hk.1.1.2, ⟨hk.1.2, hk.2⟩⟩⟩⟩⟩⟩⟩⟩⟩))), (rk (Kd.R_mono HO484.out (fun _ hk => ⟨hk.1.1.1.1.1.1.1.1.1.2, ⟨hk.1.1.1.1.1.1.1.1.2, ⟨hk.1.1.1.1.1.1.1.2, ⟨hk.1.1.1.1.1.1.2, ⟨hk.1.1.1.1.1.2, ⟨hk.1.1.1.1.2, ⟨hk.1.1.1.2, ⟨hk.1.1.2, ⟨hk.1.2, hk.2⟩⟩⟩⟩⟩⟩⟩⟩⟩))), (rk (Kd.R_mono HO488.out (fun _ hk => ⟨hk.1.1.1.1.1.1.1.1.1.2, ⟨hk.1.1.1.1.1.1.1.1.2, ⟨hk.1.1.1.1.1.1.1.2, ⟨hk.1.1.1.1.1.1.2, ⟨hk.1.1.1.1.1.2, ⟨hk.1.1.1.1.2, ⟨hk.1.1.1.2, ⟨hk.1.1.2, ⟨hk.1.2, hk.2⟩⟩⟩⟩⟩⟩⟩⟩⟩))), (pk BK424.out), (pk BK425.out), (pk BK441.out), (pk BK446.out), (pk BK451.out), (pk BK457.out), (pk BK490.out), GW490.out, GE490.out, NB424_490.out, NB490_424.out, NB425_490.out, NB490_425.out, NB441_490.out, NB490_441.out, NB446_490.out, NB490_446.out, NB451_490.out, NB490_451.out, NB457_490.out, NB490_457.out, (bks HB.out)⟩)
    ·skip
     refine bs 15 #[.int .i64 0, .slice none 0 0] 29 (fun gb490 hg w121 hbox hb => ?_)
     have BK490 := Aside0.mk hbox
     have GW490 := ge HB hg
     have GE490 := GW490
     obtain ⟨NB424_490, NB490_424⟩ := nb BK424 hg
     obtain ⟨NB425_490, NB490_425⟩ := nb BK425 hg
     obtain ⟨NB441_490, NB490_441⟩ := nb BK441 hg
     obtain ⟨NB446_490, NB490_446⟩ := nb BK446 hg
     obtain ⟨NB451_490, NB490_451⟩ := nb BK451 hg
     obtain ⟨NB457_490, NB490_457⟩ := nb BK457 hg
     replace HO431 := rb HO431 hb
     replace HO435 := rb HO435 hb
     replace HO439 := rb HO439 hb
     replace HO445 := rb HO445 hb
     replace HO450 := rb HO450 hb
     replace HO455 := rb HO455 hb
     replace HO462 := rb HO462 hb
     replace HO467 := rb HO467 hb
     replace BK424 := bb BK424 hb
     replace BK425 := bb BK425 hb
     replace BK441 := bb BK441 hb
     replace BK446 := bb BK446 hb
     replace BK451 := bb BK451 hb
     replace BK457 := bb BK457 hb
     replace HB := hs HB hb
     clear hb hbox hg
     refine hK.out _ _ ⟨(blk_cell BK424.out 0).trans rfl, (blk_cell BK424.out 1).trans rfl, (blk_cell BK425.out 0).trans rfl, (blk_cell BK425.out 1).trans rfl⟩ (fun hHeld => ?_)
     clear hK K
     refine nm ?_
     refine on 1 (some 96) HT_ (fun K hK => ?_)
     refine gs Try.func14 #[.agg #[.int .i64 a0_0, .slice A0_1 l0_1.length c0_1]] ?_
     with_reducible refine (laws_toRing.calls k a0_0 _ _ l0_1 t477 t478 _ ?side1 ?side2 A43.out).mono ?_
     (case side1 => repeat (first | exact (Kd.C_below HR0_1.out HB.out) | (with_reducible refine Kd.C_alloc ?_ _) | (with_reducible refine Kd.C_drewN ?_ _) | (with_reducible refine Kd.C_drew ?_)))
     (case side2 => exact HC0_1.out)
     rintro e w122 ⟨v479, rfl, ho0, hb⟩
     refine ⟨_, rfl, ?_⟩
     have HO480 := Aside0.mk (Kd.R_lower (Kd.R_new' (Kd.R_new' (Kd.R_new' (Kd.R_new' (Kd.R_new' (Kd.R_new' (Kd.R_new' (Kd.R_new' ho0 (Kd.R_lt (rk HO431.out))) (Kd.R_lt (rk HO435.out))) (Kd.R_lt (rk HO439.out))) (Kd.R_lt (rk HO445.out))) (Kd.R_lt (rk HO450.out))) (Kd.R_lt (rk HO455.out))) (Kd.R_lt (rk HO462.out))) (Kd.R_lt (rk HO467.out))) (below_size (bks HB.out)))
     replace HO431 := re HO431 ho0 hb
     replace HO435 := re HO435 ho0 hb
     replace HO439 := re HO439 ho0 hb
     replace HO445 := re HO445 ho0 hb
     replace HO450 := re HO450 ho0 hb
     replace HO455 := re HO455 ho0 hb
     replace HO462 := re HO462 ho0 hb
     replace HO467 := re HO467 ho0 hb
     replace BK424 := bb BK424 hb
     replace BK425 := bb BK425 hb
     replace BK441 := bb BK441 hb
     replace BK446 := bb BK446 hb
     replace BK451 := bb BK451 hb
     replace BK457 := bb BK457 hb
     replace BK490 := bb BK490 hb
     replace HB := hs HB hb
     (try clear hb ho0)
     refine hK.out _ _ ⟨(blk_cell BK424.out 0).trans rfl, (blk_cell BK424.out 1).trans rfl, (blk_cell BK425.out 0).trans rfl, (blk_cell BK425.out 1).trans rfl⟩ (fun hHeld => ?_)
     clear hK K
     refine nm ?_
     refine on 3 (some 98) HT_ (fun K hK => ?_)
     refine gs Try.func15 #[.agg #[.int .i64 a1_0, .slice A1_1 l1_1.length c1_1]] ?_
     with_reducible refine (laws_toCyclo.calls k a1_0 _ _ l1_1 t481 t482 _ ?side1 ?side2 A44.out).mono ?_
     (case side1 => repeat (first | exact (Kd.C_below HR1_1.out HB.out) | (with_reducible refine Kd.C_alloc ?_ _) | (with_reducible refine Kd.C_drewN ?_ _) | (with_reducible refine Kd.C_drew ?_)))
     (case side2 => exact HC1_1.out)
     rintro e w123 ⟨v483, rfl, ho0, hb⟩
     refine ⟨_, rfl, ?_⟩
     have HO484 := Aside0.mk (Kd.R_lower (Kd.R_new' (Kd.R_new' (Kd.R_new' (Kd.R_new' (Kd.R_new' (Kd.R_new' (Kd.R_new' (Kd.R_new' (Kd.R_new' ho0 (Kd.R_lt (rk HO431.out))) (Kd.R_lt (rk HO435.out))) (Kd.R_lt (rk HO439.out))) (Kd.R_lt (rk HO445.out))) (Kd.R_lt (rk HO450.out))) (Kd.R_lt (rk HO455.out))) (Kd.R_lt (rk HO462.out))) (Kd.R_lt (rk HO467.out))) (Kd.R_lt (rk HO480.out))) (below_size (bks HB.out)))
     replace HO431 := re HO431 ho0 hb
     replace HO435 := re HO435 ho0 hb
     replace HO439 := re HO439 ho0 hb
     replace HO445 := re HO445 ho0 hb
     replace HO450 := re HO450 ho0 hb
     replace HO455 := re HO455 ho0 hb
     replace HO462 := re HO462 ho0 hb
     replace HO467 := re HO467 ho0 hb
     replace HO480 := re HO480 ho0 hb
     replace BK424 := bb BK424 hb
     replace BK425 := bb BK425 hb
     replace BK441 := bb BK441 hb
     replace BK446 := bb BK446 hb
     replace BK451 := bb BK451 hb
     replace BK457 := bb BK457 hb
     replace BK490 := bb BK490 hb
     replace HB := hs HB hb
     (try clear hb ho0)
     obtain ⟨Ao124, co124, eo124⟩ := Kd.R_slice HO480.out
     (first | subst eo124 | (injection eo124 with f1_ f2_ f3_; have f4_ := f1_.symm; have f5_ := f3_.symm; clear f1_ f2_ f3_; subst f4_; subst f5_))
     obtain ⟨Ao125, co125, eo125⟩ := Kd.R_slice HO484.out
     (first | subst eo125 | (injection eo125 with f1_ f2_ f3_; have f4_ := f1_.symm; have f5_ := f3_.symm; clear f1_ f2_ f3_; subst f4_; subst f5_))
     refine hK.out _ _ ⟨(blk_cell BK424.out 0).trans rfl, (blk_cell BK424.out 1).trans rfl, (blk_cell BK425.out 0).trans rfl, (blk_cell BK425.out 1).trans rfl⟩ (fun hHeld => ?_)
     clear hK K
     refine nm ?_
     refine on 4 (some 99) HT_ (fun K hK => ?_)
     refine gs Try.func16 #[.agg #[.int .i64 t477, .slice Ao124 t478.length co124], .agg #[.int .i64 t481, .slice Ao125 t482.length co125]] ?_
     with_reducible refine (impl_ActOnCyclo.calls k t477 _ _ t478 t481 _ _ t482 t485 t486 t489 _ ?side1 ?side2 ?side3 ?side4 A45.out).mono ?_
     (case side1 => repeat (first | exact (Kd.R_reads' HO480.out).2.2 | (with_reducible refine Kd.C_alloc ?_ _) | (with_reducible refine Kd.C_drewN ?_ _) | (with_reducible refine Kd.C_drew ?_)))
     (case side2 => exact (Kd.R_reads' HO480.out).2.1)
     (case side3 => repeat (first | exact (Kd.R_reads' HO484.out).2.2 | (with_reducible refine Kd.C_alloc ?_ _) | (with_reducible refine Kd.C_drewN ?_ _) | (with_reducible refine Kd.C_drew ?_)))
     (case side4 => exact (Kd.R_reads' HO484.out).2.1)
     rintro e w126 ⟨v487, rfl, ho0, hb⟩
     refine ⟨_, rfl, ?_⟩
     have HO488 := Aside0.mk (Kd.R_lower (Kd.R_new' (Kd.R_new' (Kd.R_new' (Kd.R_new' (Kd.R_new' (Kd.R_new' (Kd.R_new' (Kd.R_new' (Kd.R_new' (Kd.R_new' ho0 (Kd.R_lt (rk HO431.out))) (Kd.R_lt (rk HO435.out))) (Kd.R_lt (rk HO439.out))) (Kd.R_lt (rk HO445.out))) (Kd.R_lt (rk HO450.out))) (Kd.R_lt (rk HO455.out))) (Kd.R_lt (rk HO462.out))) (Kd.R_lt (rk HO467.out))) (Kd.R_lt (rk HO480.out))) (Kd.R_lt (rk HO484.out))) (below_size (bks HB.out)))
     replace HO431 := re HO431 ho0 hb
     replace HO435 := re HO435 ho0 hb
     replace HO439 := re HO439 ho0 hb
     replace HO445 := re HO445 ho0 hb
     replace HO450 := re HO450 ho0 hb
     replace HO455 := re HO455 ho0 hb
     replace HO462 := re HO462 ho0 hb
     replace HO467 := re HO467 ho0 hb
     replace HO480 := re HO480 ho0 hb
     replace HO484 := re HO484 ho0 hb
     replace BK424 := bb BK424 hb
     replace BK425 := bb BK425 hb
     replace BK441 := bb BK441 hb
     replace BK446 := bb BK446 hb
     replace BK451 := bb BK451 hb
     replace BK457 := bb BK457 hb
     replace BK490 := bb BK490 hb
     replace HB := hs HB hb
     (try clear hb ho0)
     refine hK.out _ _ ⟨(blk_cell BK424.out 0).trans rfl, (blk_cell BK424.out 1).trans rfl, (blk_cell BK425.out 0).trans rfl, (blk_cell BK425.out 1).trans rfl⟩ (fun hHeld => ?_)
     clear hK K
     refine nm ?_
     refine pu 5 (some 94) HT_ ?_
     refine pu 6 (some 100) HT_ ?_
     refine pu 7 (some 101) HT_ ?_
     exact np (hCont (.slice Ao124 t478.length co124, .slice Ao125 t482.length co125, v487, gb490) _ ⟨hHeld, (rk (Kd.R_mono HO431.out (fun _ hk => ⟨hk.1.1.1.1, ⟨hk.1.1.1.2.1, ⟨hk.1.1.1.2.2.1, ⟨hk.1.1.1.2.2.2.1, ⟨hk.1.1.1.2.2.2.2.1, ⟨hk.1.1.1.2.2.2.2.2.1, ⟨hk.1.1.1.2.2.2.2.2.2, ⟨hk.1.1.2, ⟨hk.1.2, hk.2⟩⟩⟩⟩⟩⟩⟩⟩⟩))), (rk (Kd.R_mono HO435.out (fun _ hk => ⟨hk.1.1.1.1, ⟨hk.1.1.1.2.1, ⟨hk.1.1.1.2.2.1, ⟨hk.1.1.1.2.2.2.1, ⟨hk.1.1.1.2.2.2.2.1, ⟨hk.1.1.1.2.2.2.2.2.1, ⟨hk.1.1.1.2.2.2.2.2.2, ⟨hk.1.1.2, ⟨hk.1.2, hk.2⟩⟩⟩⟩⟩⟩⟩⟩⟩))), (rk (Kd.R_mono HO439.out (fun _ hk => ⟨hk.1.1.1.1, ⟨hk.1.1.1.2.1, ⟨hk.1.1.1.2.2.1, ⟨hk.1.1.1.2.2.2.1, ⟨hk.1.1.1.2.2.2.2.1, ⟨hk.1.1.1.2.2.2.2.2.1, ⟨hk.1.1.1.2.2.2.2.2.2, ⟨hk.1.1.2, ⟨hk.1.2, hk.2⟩⟩⟩⟩⟩⟩⟩⟩⟩))), (rk (Kd.R_mono HO445.out (fun _ hk => ⟨hk.1.1.1.1, ⟨hk.1.1.1.2.1, ⟨hk.1.1.1.2.2.1, ⟨hk.1.1.1.2.2.2.1, ⟨hk.1.1.1.2.2.2.2.1, ⟨hk.1.1.1.2.2.2.2.2.1, ⟨hk.1.1.1.2.2.2.2.2.2, ⟨hk.1.1.2, ⟨hk.1.2, hk.2⟩⟩⟩⟩⟩⟩⟩⟩⟩))), (rk (Kd.R_mono HO450.out (fun _ hk => ⟨hk.1.1.1.1, ⟨hk.1.1.1.2.1, ⟨hk.1.1.1.2.2.1, ⟨hk.1.1.1.2.2.2.1, ⟨hk.1.1.1.2.2.2.2.1, ⟨hk.1.1.1.2.2.2.2.2.1, ⟨hk.1.1.1.2.2.2.2.2.2, ⟨hk.1.1.2, ⟨hk.1.2, hk.2⟩⟩⟩⟩⟩⟩⟩⟩⟩))), (rk (Kd.R_mono HO455.out (fun _ hk => ⟨hk.1.1.1.1, ⟨hk.1.1.1.2.1, ⟨hk.1.1.1.2.2.1, ⟨hk.1.1.1.2.2.2.1, ⟨hk.1.1.1.2.2.2.2.1, ⟨hk.1.1.1.2.2.2.2.2.1, ⟨hk.1.1.1.2.2.2.2.2.2, ⟨hk.1.1.2, ⟨hk.1.2, hk.2⟩⟩⟩⟩⟩⟩⟩⟩⟩))), (rk (Kd.R_mono HO462.out (fun _ hk => ⟨hk.1.1.1.1, ⟨hk.1.1.1.2.1, ⟨hk.1.1.1.2.2.1, ⟨hk.1.1.1.2.2.2.1, ⟨hk.1.1.1.2.2.2.2.1, ⟨hk.1.1.1.2.2.2.2.2.1, ⟨hk.1.1.1.2.2.2.2.2.2, ⟨hk.1.1.2, ⟨hk.1.2, hk.2⟩⟩⟩⟩⟩⟩⟩⟩⟩))), (rk (Kd.R_mono HO467.out (fun _ hk => ⟨hk.1.1.1.1, ⟨hk.1.1.1.2.1, ⟨hk.1.1.1.2.2.1, ⟨hk.1.1.1.2.2.2.1, ⟨hk.1.1.1.2.2.2.2.1, ⟨hk.1.1.1.2.2.2.2.2.1, ⟨hk.1.1.1.2.2.2.2.2.2, ⟨hk.1.1.2, ⟨hk.1.2, hk.2⟩⟩⟩⟩⟩⟩⟩⟩⟩))), (rk (Kd.R_mono HO480.out (fun _ hk => ⟨hk.1.1.1.1.1.1.1.1.1.2, ⟨hk.1.1.1.1.1.1.1.1.2, ⟨hk.1.1.1.1.1.1.1.2, ⟨hk.1.1.1.1.1.1.2, ⟨hk.1.1.1.1.1.2, ⟨hk.1.1.1.1.2, ⟨hk.1.1.1.2, ⟨hk.1.1.2, ⟨hk.1.2, hk.2⟩⟩⟩⟩⟩⟩⟩⟩⟩))), (rk (Kd.R_mono HO484.out (fun _ hk => ⟨hk.1.1.1.1.1.1.1.1.1.2, ⟨hk.1.1.1.1.1.1.1.1.2, ⟨hk.1.1.1.1.1.1.1.2, ⟨hk.1.1.1.1.1.1.2, ⟨hk.1.1.1.1.1.2, ⟨hk.1.1.1.1.2, ⟨hk.1.1.1.2, ⟨hk.1.1.2, ⟨hk.1.2, hk.2⟩⟩⟩⟩⟩⟩⟩⟩⟩))), (rk (Kd.R_mono HO488.out (fun _ hk => ⟨hk.1.1.1.1.1.1.1.1.1.2, ⟨hk.1.1.1.1.1.1.1.1.2, ⟨hk.1.1.1.1.1.1.1.2, ⟨hk.1.1.1.1.1.1.2, ⟨hk.1.1.1.1.1.2, ⟨hk.1.1.1.1.2, ⟨hk.1.1.1.2, ⟨hk.1.1.2, ⟨hk.1.2, hk.2⟩⟩⟩⟩⟩⟩⟩⟩⟩))), (pk BK424.out), (pk BK425.out), (pk BK441.out), (pk BK446.out), (pk BK451.out), (pk BK457.out), (pk BK490.out), GW490.out, GE490.out, NB424_490.out, NB490_424.out, NB425_490.out, NB490_425.out, NB441_490.out, NB490_441.out, NB446_490.out, NB490_446.out, NB451_490.out, NB490_451.out, NB457_490.out, NB490_457.out, (bks HB.out)⟩)
   rintro ⟨v479, v483, v487, gb490⟩ w127 ⟨hS_, h0_, h1_, h2_, h3_, h4_, h5_, h6_, h7_, h8_, h9_, h10_, h11_, h12_, h13_, h14_, h15_, h16_, h17_, h18_, h19_, h20_, h21_, h22_, h23_, h24_, h25_, h26_, h27_, h28_, h29_, h30_, h31_, h32_⟩
   try dsimp only at h0_ h1_ h2_ h3_ h4_ h5_ h6_ h7_ h8_ h9_ h10_ h11_ h12_ h13_ h14_ h15_ h16_ h17_ h18_ h19_ h20_ h21_ h22_ h23_ h24_ h25_ h26_ h27_ h28_ h29_ h30_ h31_ h32_
   have HO480 := Aside0.mk h8_
   have HO484 := Aside0.mk h9_
   have HO488 := Aside0.mk h10_
   have BK490 := Aside0.mk h17_
   have GW490 := Aside0.mk h18_
   have GE490 := Aside0.mk h19_
   have NB424_490 := Aside0.mk h20_
   have NB490_424 := Aside0.mk h21_
   have NB425_490 := Aside0.mk h22_
   have NB490_425 := Aside0.mk h23_
   have NB441_490 := Aside0.mk h24_
   have NB490_441 := Aside0.mk h25_
   have NB446_490 := Aside0.mk h26_
   have NB490_446 := Aside0.mk h27_
   have NB451_490 := Aside0.mk h28_
   have NB490_451 := Aside0.mk h29_
   have NB457_490 := Aside0.mk h30_
   have NB490_457 := Aside0.mk h31_
   replace HO431 := Aside0.mk h0_
   replace HO435 := Aside0.mk h1_
   replace HO439 := Aside0.mk h2_
   replace HO445 := Aside0.mk h3_
   replace HO450 := Aside0.mk h4_
   replace HO455 := Aside0.mk h5_
   replace HO462 := Aside0.mk h6_
   replace HO467 := Aside0.mk h7_
   replace BK424 := Aside0.mk h11_
   replace BK425 := Aside0.mk h12_
   replace BK441 := Aside0.mk h13_
   replace BK446 := Aside0.mk h14_
   replace BK451 := Aside0.mk h15_
   replace BK457 := Aside0.mk h16_
   replace HB := Aside0.mk h32_
   clear h0_ h1_ h2_ h3_ h4_ h5_ h6_ h7_ h8_ h9_ h10_ h11_ h12_ h13_ h14_ h15_ h16_ h17_ h18_ h19_ h20_ h21_ h22_ h23_ h24_ h25_ h26_ h27_ h28_ h29_ h30_ h31_ h32_
   have hHeld : w127.cell? ⟨gb424, 0, none⟩ = some (.int .i64 a0_0) ∧ w127.cell? ⟨gb424, 1, none⟩ = some (.slice A0_1 l0_1.length c0_1) ∧ w127.cell? ⟨gb425, 0, none⟩ = some (.int .i64 a1_0) ∧ w127.cell? ⟨gb425, 1, none⟩ = some (.slice A1_1 l1_1.length c1_1) := hS_
   obtain ⟨Ao129, co129, eo129⟩ := Kd.R_slice HO488.out
   (first | subst eo129 | (injection eo129 with f1_ f2_ f3_; have f4_ := f1_.symm; have f5_ := f3_.symm; clear f1_ f2_ f3_; subst f4_; subst f5_))
   refine norm_ (a' := ?_) ?_ ?_
   rotate_left
   ·simp only [putAll, Act.put, List.setIfInBounds_toArray, List.set_cons_zero, List.set_cons_succ]
    rfl
   refine on 9 none HT_ (fun K hK => ?_)
   have hs128 : w127.cell? ⟨gb490, 0, none⟩ = some (.int .i64 0) := (blk_cell BK490.out 0).trans rfl
   have hfs128 := blk_frozen BK490.out 0
   have hns128_0 := NB424_490.out
   have hns128_1 := NB425_490.out
   have hns128_2 := NB441_490.out
   have hns128_3 := NB446_490.out
   have hns128_4 := NB451_490.out
   have hns128_5 := NB457_490.out
   have hms128_0 := NB490_424.out
   have hms128_1 := NB490_425.out
   have hms128_2 := NB490_441.out
   have hms128_3 := NB490_446.out
   have hms128_4 := NB490_451.out
   have hms128_5 := NB490_457.out
   have hs130 : w127.cell? ⟨gb490, 1, none⟩ = some (.slice none 0 0) := (blk_cell BK490.out 1).trans rfl
   have hfs130 := blk_frozen BK490.out 1
   have hns130_0 := NB424_490.out
   have hns130_1 := NB425_490.out
   have hns130_2 := NB441_490.out
   have hns130_3 := NB446_490.out
   have hns130_4 := NB451_490.out
   have hns130_5 := NB457_490.out
   have hms130_0 := NB490_424.out
   have hms130_1 := NB490_425.out
   have hms130_2 := NB490_441.out
   have hms130_3 := NB490_446.out
   have hms130_4 := NB490_451.out
   have hms130_5 := NB490_457.out
   refine skip_ (w1 := ?_) (by rfl) rfl ?_ ?_
   rotate_left
   ·go_simp
    rfl
   refine hK.out _ _ ⟨((cell_far (p := ⟨gb490, _, none⟩) NB424_490.out _).trans (((cell_far (p := ⟨gb490, _, none⟩) NB424_490.out _).trans (hHeld.1)))), ((cell_far (p := ⟨gb490, _, none⟩) NB424_490.out _).trans (((cell_far (p := ⟨gb490, _, none⟩) NB424_490.out _).trans (hHeld.2.1)))), ((cell_far (p := ⟨gb490, _, none⟩) NB425_490.out _).trans (((cell_far (p := ⟨gb490, _, none⟩) NB425_490.out _).trans (hHeld.2.2.1)))), ((cell_far (p := ⟨gb490, _, none⟩) NB425_490.out _).trans (((cell_far (p := ⟨gb490, _, none⟩) NB425_490.out _).trans (hHeld.2.2.2))))⟩ (fun hHeld => ?_)
   clear hK K
   refine pu 10 (some 16) HT_ ?_
   refine done_ (done_of HT_.out (by kernel_rfl)) ?_
   have hnb131 := NB490_424.out
   have hnc131 := NB424_490.out
   have hnb132 := NB490_425.out
   have hnc132 := NB425_490.out
   have hnb133 := NB490_441.out
   have hnc133 := NB441_490.out
   have hnb134 := NB490_446.out
   have hnc134 := NB446_490.out
   have hnb135 := NB490_451.out
   have hnc135 := NB451_490.out
   have hnb136 := NB490_457.out
   have hnc136 := NB457_490.out
   have hcz137_0 : w127.cell? ⟨gb490, 0, none⟩ = some (.int .i64 0) := (blk_cell BK490.out 0).trans rfl
   have hcz137_1 : w127.cell? ⟨gb490, 1, none⟩ = some (.slice none 0 0) := (blk_cell BK490.out 1).trans rfl
   have hfz137_0 := blk_frozen BK490.out 0
   have hfz137_1 := blk_frozen BK490.out 1
   have hcz138_0 : w127.cell? ⟨gb441, 0, none⟩ = some (.int .i64 t436) := (blk_cell BK441.out 0).trans rfl
   have hcz138_1 : w127.cell? ⟨gb441, 1, none⟩ = some (.slice Ao68 t437.length co68) := (blk_cell BK441.out 1).trans rfl
   have hfz138_0 := blk_frozen BK441.out 0
   have hfz138_1 := blk_frozen BK441.out 1
   try go_wp2_with (first | ((with_reducible refine gate_callee (f := 17) rfl ?_); refine gl (some 104) Try.func17 #[.agg #[.int .i64 t485, .slice Ao129 t486.length co129], .agg #[.int .i64 t436, .slice Ao68 t437.length co68]] ?_; (with_reducible refine (laws_eqCyclo.calls k t485 _ _ t486 t436 _ _ t437 true _ ?side1 ?side2 ?side3 ?side4 A46.out).mono ?_); (case side1 => exact (Kd.R_reads' (rx HO488)).2.2); (case side2 => exact (Kd.R_reads' HO488.out).2.1); (case side3 => exact (Kd.R_reads' (rx HO439)).2.2); (case side4 => exact (Kd.R_reads' HO439.out).2.1); rintro e w139 ⟨rfl, hb⟩; refine ⟨_, rfl, ?_⟩; replace HO431 := rb HO431 hb; replace HO435 := rb HO435 hb; replace HO439 := rb HO439 hb; replace HO445 := rb HO445 hb; replace HO450 := rb HO450 hb; replace HO455 := rb HO455 hb; replace HO462 := rb HO462 hb; replace HO467 := rb HO467 hb; replace HO480 := rb HO480 hb; replace HO484 := rb HO484 hb; replace HO488 := rb HO488 hb; replace BK424 := bb BK424 hb; replace BK425 := bb BK425 hb; replace BK441 := bb BK441 hb; replace BK446 := bb BK446 hb; replace BK451 := bb BK451 hb; replace BK457 := bb BK457 hb; replace BK490 := Aside0.mk (blk_below (g := gb490) (o := .cells #[.int .i64 t485, .slice Ao129 t486.length co129] 29 (0, 0)) (by (with_reducible repeat (first | refine blk_drewN ?_ _ | refine blk_drew ?_ | refine blk_alloc ?_ _)); refine blk_put (cs := #[.int .i64 t485, .slice none 0 0]) ?_ 1 _ rfl; (with_reducible repeat (first | refine blk_drewN ?_ _ | refine blk_drew ?_ | refine blk_alloc ?_ _)); refine blk_put (cs := #[.int .i64 0, .slice none 0 0]) ?_ 0 _ rfl; (with_reducible repeat (first | refine blk_drewN ?_ _ | refine blk_drew ?_ | refine blk_alloc ?_ _)); exact BK490.out) hb); replace HB := hs HB hb; (try clear hb); have hcz140_0 : w139.cell? ⟨gb457, 0, none⟩ = some (.int .i64 t452) := (blk_cell BK457.out 0).trans rfl; have hcz140_1 : w139.cell? ⟨gb457, 1, none⟩ = some (.slice Ao98 t453.length co98) := (blk_cell BK457.out 1).trans rfl; have hfz140_0 := blk_frozen BK457.out 0; have hfz140_1 := blk_frozen BK457.out 1) | ((with_reducible refine gate_callee (f := 21) rfl ?_); refine goesL_ (some 113) rfl rfl Try.func21 (by kernel_rfl) rfl #[.agg #[.int .i64 t452, .slice Ao98 t475.length co98], .int .i64 1] rfl (by (try simp only [List.map_toArray, List.map_cons, List.map_nil]); first | done | (rw [show t475.length = t453.length from (Kd.R_reads' HO455.out).1.symm] <;> rfl) | rfl | (simp only [List.length_drop, List.length_take]; rfl)) ?_; (with_reducible refine (laws_heldCyclo.calls k t452 _ _ t475 1 t492 _ ?side1 ?side2 A49.out).mono ?_); (case side1 => repeat (first | exact (Kd.R_reads' HO455.out).2.2 | (with_reducible refine Kd.C_alloc ?_ _) | (with_reducible refine Kd.C_drewN ?_ _) | (with_reducible refine Kd.C_drew ?_))); (case side2 => rw [show t475.length = t453.length from (Kd.R_reads' HO455.out).1.symm]; exact (Kd.R_reads' HO455.out).2.1); rintro e w141 ⟨rfl, hb⟩; refine ⟨_, rfl, ?_⟩; replace HO431 := rb HO431 hb; replace HO435 := rb HO435 hb; replace HO439 := rb HO439 hb; replace HO445 := rb HO445 hb; replace HO450 := rb HO450 hb; replace HO455 := rb HO455 hb; replace HO462 := rb HO462 hb; replace HO467 := rb HO467 hb; replace HO480 := rb HO480 hb; replace HO484 := rb HO484 hb; replace HO488 := rb HO488 hb; replace BK424 := bb BK424 hb; replace BK425 := bb BK425 hb; replace BK441 := bb BK441 hb; replace BK446 := bb BK446 hb; replace BK451 := bb BK451 hb; replace BK457 := bb BK457 hb; replace BK490 := bb BK490 hb; replace HB := hs HB hb; (try clear hb)))
   go_ret
   exact ⟨by first | rfl | (simp [errW_none, errW_some] <;> rfl) | (simp [*, errW_none, errW_some] <;> rfl), bks HB.out⟩
/-- THE ONE PURE STATEMENT of laws_FnExactActOnCyclo. -/
def laws_FnExactActOnCyclo.Pure : Prop := ∀ (a0_0 : Int) (l0_1 : List Int) (a1_0 : Int) (l1_1 : List Int), (Lit.int .i64 a0_0).wf = true → l0_1.length ≤ maxLen → (∀ x ∈ l0_1, (Lit.int .i64 x).wf = true) → (Lit.int .i64 a1_0).wf = true → l1_1.length ≤ maxLen → (∀ x ∈ l1_1, (Lit.int .i64 x).wf = true) → ∃ k, laws_FnExactActOnCyclo.f k a0_0 l0_1 a1_0 l1_1 = some true
theorem laws_FnExactActOnCyclo.walk (P : laws_FnExactActOnCyclo.Pure) (a0_0 : Int) (a0_1 : Option Addr) (len0_1 cap0_1 : Nat) (z0_1 : List Int) (a1_0 : Int) (a1_1 : Option Addr) (len1_1 cap1_1 : Nat) (z1_1 : List Int) (w : World) (w0_0 : (Lit.int .i64 a0_0).wf = true) (w0_1 : ((a0_1 = none ∧ len0_1 = 0 ∧ cap0_1 = 0 ∧ z0_1 = []) ∨ ∃ x, a0_1 = some x ∧ len0_1 ≤ cap0_1 ∧ cap0_1 ≤ maxLen ∧ z0_1.length = cap0_1 ∧ (∀ i, i < z0_1.length → w.cell? (x.add i) = some (.int .i64 (z0_1.getD i 0))) ∧ ∀ n ∈ z0_1, (Lit.int .i64 n).wf = true)) (w1_0 : (Lit.int .i64 a1_0).wf = true) (w1_1 : ((a1_1 = none ∧ len1_1 = 0 ∧ cap1_1 = 0 ∧ z1_1 = []) ∨ ∃ x, a1_1 = some x ∧ len1_1 ≤ cap1_1 ∧ cap1_1 ≤ maxLen ∧ z1_1.length = cap1_1 ∧ (∀ i, i < z1_1.length → w.cell? (x.add i) = some (.int .i64 (z1_1.getD i 0))) ∧ ∀ n ∈ z1_1, (Lit.int .i64 n).wf = true)) :
  Calls Try.prog 3 #[.agg #[.int .i64 a0_0, .slice a0_1 len0_1 cap0_1], .agg #[.int .i64 a1_0, .slice a1_1 len1_1 cap1_1]] w fun e w' => e = .returned (.bool true) ∧ Below w.heap.size w w' := by
 obtain ⟨l0_1, rfl, hr0_1, hm0_1, hw0_1, hc0_1⟩ := ReadsInt.ofRowC w0_1
 obtain ⟨l1_1, rfl, hr1_1, hm1_1, hw1_1, hc1_1⟩ := ReadsInt.ofRowC w1_1
 obtain ⟨k, h⟩ := P a0_0 l0_1 a1_0 l1_1 w0_0 hm0_1 hw0_1 w1_0 hm1_1 hw1_1
 refine (laws_FnExactActOnCyclo.calls k a0_0 _ _ l0_1 a1_0 _ _ l1_1 true w (Kd.C_of_reads (d := (0 : Int)) (h1 := fun _ => rfl) hr0_1) hc0_1 (Kd.C_of_reads (d := (0 : Int)) (h1 := fun _ => rfl) hr1_1) hc1_1 h).mono ?_
 rintro e w' ⟨rfl, hd⟩
 exact ⟨rfl, hd⟩

end Go.Proofs.Ytdnpkbhapdkikaa.PFnExactActOnCyclo
