-- LAID BY pp.py (a program of this repo): what the kit's print tells of this seat's functions, with contracts by hand
import Derived.Test.YthkdkiifchefhaaPFnExactMultiplyRingsx0
import Derived.Test.YthkdkiifchefhaaPFnExactMultiplyRingsx1
import Derived.Test.YthkdkiifchefhaaPFnExactMultiplyRingsx5
import Derived.Test.YthkdkiifchefhaaPFnExactMultiplyRingsx8
namespace Go.Proofs.Ythkdkiifchefhaa.PFnExactMultiplyRings
open Go.RowKit Go.Proofs.YthkdkiifchefhaaW.PrintWords Go.Proofs.YthkdkiifchefhaaW.PrintLast Go.Proofs.YthkdkiifchefhaaW.PrintMore
attribute [local go_sem] max2_int min2_int max_two min_two max_three min_three max_four min_four   -- for this text's walks alone
set_option linter.unusedVariables false
set_option linter.unusedSimpArgs false

/-! ### laws_FnExactMultiplyRings: function 8 -/
def laws_FnExactMultiplyRings.f (k : Nat) (a0_0 : Int) (l0_1 : List Int) (a1_0 : Int) (l1_1 : List Int) : Option (Bool) := (laws_szRing.f a0_0 l0_1 1048576).bind fun t243 => (if t243 < 0 then (some true) else ((laws_szRing.f a1_0 l1_1 t243).bind fun t244 => (if t244 < 0 then (some true) else ((laws_toRing.f k a0_0 l0_1).bind fun bt245 => ((laws_toRing.f k a1_0 l1_1).bind fun bt249 => ((spec_MultiplyRings.f k bt245.1 bt245.2 bt249.1 bt249.2).bind fun bt253 => ((laws_toRing.f k a0_0 l0_1).bind fun bt259 => ((laws_toRing.f k a1_0 l1_1).bind fun bt264 => ((impl_MultiplyRings.f k bt259.1 bt259.2 bt264.1 bt264.2).bind fun bt269 => ((laws_eqRing.f k bt269.1 bt269.2.1 bt253.1 bt253.2.1).bind fun t275 => (if t275 = true then (if bt269.2.2 = bt253.2.2 then ((laws_toRing.f k a0_0 l0_1).bind fun bt276 => ((laws_eqRing.f k bt259.1 bt259.2 bt276.1 bt276.2).bind fun t280 => (if t280 = true then ((laws_toRing.f k a1_0 l1_1).bind fun bt281 => ((laws_eqRing.f k bt264.1 bt264.2 bt281.1 bt281.2).bind fun t285 => (if t285 = true then ((laws_markRing.f k bt259.1 bt259.2 1).bind fun bt286 => ((laws_markRing.f k bt264.1 bt264.2 bt286.1).bind fun bt288 => (if bt288.1 < 0 then (none) else ((laws_eqRing.f k bt269.1 bt269.2.1 bt253.1 bt253.2.1).bind fun t290 => (if t290 = true then ((laws_markRing.f k bt269.1 bt269.2.1 1).bind fun bt291 => ((laws_heldRing.f k bt269.1 bt291.2 1).bind fun t293 => (if t293 < 0 then (none) else (if t293 = bt291.1 then ((laws_toRing.f k a0_0 l0_1).bind fun bt294 => ((laws_toRing.f k a1_0 l1_1).bind fun bt298 => ((impl_MultiplyRings.f k bt294.1 bt294.2 bt298.1 bt298.2).bind fun bt302 => ((laws_eqRing.f k bt302.1 bt302.2.1 bt253.1 bt253.2.1).bind fun t308 => (if t308 = true then (if bt302.2.2 = bt253.2.2 then ((laws_heldRing.f k bt269.1 bt291.2 1).bind fun t309 => (if t309 < 0 then (none) else (if t309 = bt291.1 then (some true) else (none)))) else (none)) else (none)))))) else (none))))) else (none)))))) else (none)))) else (none)))) else (none)) else (none))))))))))))
theorem laws_FnExactMultiplyRings.mono : ∀ a0 a1 a2 a3 k, LeO (laws_FnExactMultiplyRings.f k a0 a1 a2 a3) (laws_FnExactMultiplyRings.f (k + 1) a0 a1 a2 a3) := by
  intro a0 a1 a2 a3 k
  unfold laws_FnExactMultiplyRings.f
  repeat' first
      | (with_reducible exact impl_MultiplyRings.mono _ _ _ _ _)
      | (with_reducible exact laws_eqRing.mono _ _ _ _ _)
      | (with_reducible exact laws_heldRing.mono _ _ _ _)
      | (with_reducible exact laws_markRing.mono _ _ _ _)
      | (with_reducible exact laws_toRing.mono _ _ _)
      | (with_reducible exact spec_MultiplyRings.mono _ _ _ _ _)
      | (with_reducible exact LeO.refl _)
      | (with_reducible exact LeO.none _)
      | (with_reducible refine LeO.ite ?_ ?_)
      | (with_reducible refine LeO.bind ?_ (fun _ => ?_))
      | exact impl_MultiplyRings.mono _ _ _ _ _
      | exact laws_eqRing.mono _ _ _ _ _
      | exact laws_heldRing.mono _ _ _ _
      | exact laws_markRing.mono _ _ _ _
      | exact laws_toRing.mono _ _ _
      | exact spec_MultiplyRings.mono _ _ _ _ _
      | exact LeO.none _
      | refine LeO.ite ?_ ?_
      | refine LeO.bind ?_ (fun _ => ?_)
def laws_FnExactMultiplyRings.T8 : Bool × List (List Nat × List Nat) := (true, [([], []), ([0], [0]), ([], []), ([2, 1], [2]), ([1, 3, 3], [1, 3]), ([4], [4]), ([5], [5]), ([5], [5]), ([], []), ([8, 6, 4, 0, 1, 2, 3, 4, 5, 6, 8], [6, 8]), ([7, 9, 0, 1, 2, 3, 4, 5, 6, 7, 8, 9], [7])])
def laws_FnExactMultiplyRings.B8 : List Nat := [0, 1, 0, 7, 15, 31, 63, 63, 0, 383, 1023]
theorem laws_FnExactMultiplyRings.tab8 : rtab .any (opsOf Try.f8 8) = laws_FnExactMultiplyRings.T8 := by kernel_rfl
theorem laws_FnExactMultiplyRings.bits8 : waitsOk laws_FnExactMultiplyRings.T8.2 laws_FnExactMultiplyRings.B8 = true := by kernel_rfl
def laws_FnExactMultiplyRings.T31 : Bool × List (List Nat × List Nat) := (true, [([], []), ([0], [0]), ([], []), ([2, 1], [2]), ([1, 3, 3], [1, 3]), ([4], [4]), ([5], [5]), ([5], [5]), ([], []), ([8, 6, 4, 0, 1, 2, 3, 4, 5, 6, 8], [6, 8]), ([7, 9, 0, 1, 2, 3, 4, 5, 6, 7, 8, 9], [7])])
def laws_FnExactMultiplyRings.B31 : List Nat := [0, 1, 0, 7, 15, 31, 63, 63, 0, 383, 1023]
theorem laws_FnExactMultiplyRings.tab31 : rtab .any (opsOf Try.f8 31) = laws_FnExactMultiplyRings.T31 := by kernel_rfl
theorem laws_FnExactMultiplyRings.bits31 : waitsOk laws_FnExactMultiplyRings.T31.2 laws_FnExactMultiplyRings.B31 = true := by kernel_rfl
set_option maxHeartbeats 8000000 in
set_option maxRecDepth 100000 in
theorem laws_FnExactMultiplyRings.calls (k : Nat) (a0_0 : Int) (A0_1 : Option Addr) (c0_1 : Nat) (l0_1 : List Int) (a1_0 : Int) (A1_1 : Option Addr) (c1_1 : Nat) (l1_1 : List Int) (r : Bool) (w : World) (hr0_1 : Kd.C (Kd.int .i64) w A0_1 l0_1.length l0_1) (hc0_1 : l0_1.length ≤ c0_1) (hr1_1 : Kd.C (Kd.int .i64) w A1_1 l1_1.length l1_1) (hc1_1 : l1_1.length ≤ c1_1) (h : laws_FnExactMultiplyRings.f k a0_0 l0_1 a1_0 l1_1 = some r) :
    Calls Try.prog 8 #[.agg #[.int .i64 a0_0, .slice A0_1 l0_1.length c0_1], .agg #[.int .i64 a1_0, .slice A1_1 l1_1.length c1_1]] w fun e w' => e = .returned (.bool r) ∧ Below w.heap.size w w' := by
  have hu32 := Try.underlying32
  have hu24 := Try.underlying24
  have HR0_1 := Aside0.mk hr0_1
  have HC0_1 := Aside0.mk hc0_1
  clear hr0_1 hc0_1
  have HR1_1 := Aside0.mk hr1_1
  have HC1_1 := Aside0.mk hc1_1
  clear hr1_1 hc1_1
  have HB := Aside0.mk (Below.refl w.heap.size w)
  have H : ((laws_szRing.f a0_0 l0_1 1048576).bind fun t243 => (if t243 < 0 then (some true) else ((laws_szRing.f a1_0 l1_1 t243).bind fun t244 => (if t244 < 0 then (some true) else ((laws_toRing.f k a0_0 l0_1).bind fun bt245 => ((laws_toRing.f k a1_0 l1_1).bind fun bt249 => ((spec_MultiplyRings.f k bt245.1 bt245.2 bt249.1 bt249.2).bind fun bt253 => ((laws_toRing.f k a0_0 l0_1).bind fun bt259 => ((laws_toRing.f k a1_0 l1_1).bind fun bt264 => ((impl_MultiplyRings.f k bt259.1 bt259.2 bt264.1 bt264.2).bind fun bt269 => ((laws_eqRing.f k bt269.1 bt269.2.1 bt253.1 bt253.2.1).bind fun t275 => (if t275 = true then (if bt269.2.2 = bt253.2.2 then ((laws_toRing.f k a0_0 l0_1).bind fun bt276 => ((laws_eqRing.f k bt259.1 bt259.2 bt276.1 bt276.2).bind fun t280 => (if t280 = true then ((laws_toRing.f k a1_0 l1_1).bind fun bt281 => ((laws_eqRing.f k bt264.1 bt264.2 bt281.1 bt281.2).bind fun t285 => (if t285 = true then ((laws_markRing.f k bt259.1 bt259.2 1).bind fun bt286 => ((laws_markRing.f k bt264.1 bt264.2 bt286.1).bind fun bt288 => (if bt288.1 < 0 then (none) else ((laws_eqRing.f k bt269.1 bt269.2.1 bt253.1 bt253.2.1).bind fun t290 => (if t290 = true then ((laws_markRing.f k bt269.1 bt269.2.1 1).bind fun bt291 => ((laws_heldRing.f k bt269.1 bt291.2 1).bind fun t293 => (if t293 < 0 then (none) else (if t293 = bt291.1 then ((laws_toRing.f k a0_0 l0_1).bind fun bt294 => ((laws_toRing.f k a1_0 l1_1).bind fun bt298 => ((impl_MultiplyRings.f k bt294.1 bt294.2 bt298.1 bt298.2).bind fun bt302 => ((laws_eqRing.f k bt302.1 bt302.2.1 bt253.1 bt253.2.1).bind fun t308 => (if t308 = true then (if bt302.2.2 = bt253.2.2 then ((laws_heldRing.f k bt269.1 bt291.2 1).bind fun t309 => (if t309 < 0 then (none) else (if t309 = bt291.1 then (some true) else (none)))) else (none)) else (none)))))) else (none))))) else (none)))))) else (none)))) else (none)))) else (none)) else (none))))))))))))) = some r := h
  clear h
  replace H := Option.bind_eq_some_iff.mp H
  obtain ⟨t243, A30, H⟩ := H
  try dsimp only at H
  have A3 := Aside0.mk A30
  clear A30
  by_cases c4 : t243 < 0
  · rw [if_pos c4] at H
    have c4b0 : decide (t243 < 0) = true := decide_eq_true c4
    clear c4
    obtain rfl := Option.some.inj H
    go_enter Try.func8, Try.ntmps8
    go_wp2_with (first | ((with_reducible refine gate_dst (N := 2) rfl ?_); refine box_event ?hg (N := 2) ?hd (cs := #[.int .i64 a0_0, .slice A0_1 l0_1.length c0_1]) (t := 32) ?hr ?_; (case hd => rfl); (case hg => rfl); (case hr => first | (go_simp; done) | (go_simp; rfl)); intro gb241 hg w5 hbox hb; have n0_ := Aside0.mk (below_step (bk HB.out) hb); have n1_ := Aside0.mk (hbox); have n2_ := Aside0.mk ((by rw [hg]; exact (below_size (bk HB.out)) : w.heap.size ≤ gb241)); have n3_ := Aside0.mk ((by rw [hg]; exact (below_size (bk HB.out)) : w.heap.size ≤ gb241)); clear HB; have HB := n0_; have BK241 := n1_; have GW241 := n2_; have GE241 := n3_; clear n0_ n1_ n2_ n3_; clear hb hbox hg) | ((with_reducible refine gate_dst (N := 3) rfl ?_); refine box_event ?hg (N := 3) ?hd (cs := #[.int .i64 a1_0, .slice A1_1 l1_1.length c1_1]) (t := 32) ?hr ?_; (case hd => rfl); (case hg => rfl); (case hr => first | (go_simp; done) | (go_simp; rfl)); intro gb242 hg w6 hbox hb; have n0_ := Aside0.mk (blk_below (pk BK241.out) hb); have n1_ := Aside0.mk (below_step (bks HB.out) hb); have n2_ := Aside0.mk (hbox); have n3_ := Aside0.mk ((by rw [hg]; exact (below_size (bks HB.out)) : w.heap.size ≤ gb242)); have n4_ := Aside0.mk ((by rw [hg]; exact (below_size (bks HB.out)) : w.heap.size ≤ gb242)); have n5_ := Aside0.mk ((by rw [hg]; exact Nat.ne_of_lt (blk_lt (g := gb241) (o := .cells #[.int .i64 a0_0, .slice A0_1 l0_1.length c0_1] 32 (0, 0)) (pk BK241.out)) : gb241 ≠ gb242)); have n6_ := Aside0.mk ((by rw [hg]; exact Nat.ne_of_gt (blk_lt (g := gb241) (o := .cells #[.int .i64 a0_0, .slice A0_1 l0_1.length c0_1] 32 (0, 0)) (pk BK241.out)) : gb242 ≠ gb241)); clear BK241; clear HB; have BK241 := n0_; have HB := n1_; have BK242 := n2_; have GW242 := n3_; have GE242 := n4_; have NB241_242 := n5_; have NB242_241 := n6_; clear n0_ n1_ n2_ n3_ n4_ n5_ n6_; clear hb hbox hg; have hnb7 := NB241_242.out; have hnc7 := NB242_241.out; have hcz8_0 : w6.cell? ⟨gb241, 0, none⟩ = some (.int .i64 a0_0) := (blk_cell BK241.out 0).trans rfl; have hcz8_1 : w6.cell? ⟨gb241, 1, none⟩ = some (.slice A0_1 l0_1.length c0_1) := (blk_cell BK241.out 1).trans rfl; have hfz8_0 := blk_frozen BK241.out 0; have hfz8_1 := blk_frozen BK241.out 1) | ((with_reducible refine gate_callee (f := 19) rfl ?_); refine goesL_ (some 19) rfl rfl Try.func19 (by kernel_rfl) rfl #[.agg #[.int .i64 a0_0, .slice A0_1 l0_1.length c0_1], .int .i64 1048576] rfl (by (try simp only [List.map_toArray, List.map_cons, List.map_nil]); first | done | rfl | (simp only [List.length_drop, List.length_take]; rfl)) ?_; (with_reducible refine (laws_szRing.calls a0_0 _ _ l0_1 1048576 t243 _ ?side1 ?side2 A3.out).mono ?_); (case side1 => repeat (first | exact (Kd.C_below HR0_1.out HB.out) | (with_reducible refine Kd.C_alloc ?_ _) | (with_reducible refine Kd.C_drewN ?_ _) | (with_reducible refine Kd.C_drew ?_))); (case side2 => exact HC0_1.out); rintro e w9 ⟨rfl, hb⟩; refine ⟨_, rfl, ?_⟩; have n0_ := Aside0.mk (blk_below (pk BK241.out) hb); have n1_ := Aside0.mk (blk_below (pk BK242.out) hb); have n2_ := Aside0.mk (below_step (bks HB.out) hb); clear BK241; clear BK242; clear HB; have BK241 := n0_; have BK242 := n1_; have HB := n2_; clear n0_ n1_ n2_; (try clear hb); (try clear hb2); (try clear hk); (try clear hi)))
    go_ret
    exact ⟨by first | rfl | (simp [errW_none, errW_some] <;> rfl) | (simp [*, errW_none, errW_some] <;> rfl), bks HB.out⟩
  · rw [if_neg c4] at H
    have c4b0 : decide (t243 < 0) = false := decide_eq_false c4
    clear c4
    replace H := Option.bind_eq_some_iff.mp H
    obtain ⟨t244, A100, H⟩ := H
    try dsimp only at H
    have A10 := Aside0.mk A100
    clear A100
    by_cases c11 : t244 < 0
    · rw [if_pos c11] at H
      have c11b0 : decide (t244 < 0) = true := decide_eq_true c11
      clear c11
      obtain rfl := Option.some.inj H
      go_enter Try.func8, Try.ntmps8
      go_wp2_with (first | ((with_reducible refine gate_dst (N := 2) rfl ?_); refine box_event ?hg (N := 2) ?hd (cs := #[.int .i64 a0_0, .slice A0_1 l0_1.length c0_1]) (t := 32) ?hr ?_; (case hd => rfl); (case hg => rfl); (case hr => first | (go_simp; done) | (go_simp; rfl)); intro gb241 hg w12 hbox hb; have n0_ := Aside0.mk (below_step (bk HB.out) hb); have n1_ := Aside0.mk (hbox); have n2_ := Aside0.mk ((by rw [hg]; exact (below_size (bk HB.out)) : w.heap.size ≤ gb241)); have n3_ := Aside0.mk ((by rw [hg]; exact (below_size (bk HB.out)) : w.heap.size ≤ gb241)); clear HB; have HB := n0_; have BK241 := n1_; have GW241 := n2_; have GE241 := n3_; clear n0_ n1_ n2_ n3_; clear hb hbox hg) | ((with_reducible refine gate_dst (N := 3) rfl ?_); refine box_event ?hg (N := 3) ?hd (cs := #[.int .i64 a1_0, .slice A1_1 l1_1.length c1_1]) (t := 32) ?hr ?_; (case hd => rfl); (case hg => rfl); (case hr => first | (go_simp; done) | (go_simp; rfl)); intro gb242 hg w13 hbox hb; have n0_ := Aside0.mk (blk_below (pk BK241.out) hb); have n1_ := Aside0.mk (below_step (bks HB.out) hb); have n2_ := Aside0.mk (hbox); have n3_ := Aside0.mk ((by rw [hg]; exact (below_size (bks HB.out)) : w.heap.size ≤ gb242)); have n4_ := Aside0.mk ((by rw [hg]; exact (below_size (bks HB.out)) : w.heap.size ≤ gb242)); have n5_ := Aside0.mk ((by rw [hg]; exact Nat.ne_of_lt (blk_lt (g := gb241) (o := .cells #[.int .i64 a0_0, .slice A0_1 l0_1.length c0_1] 32 (0, 0)) (pk BK241.out)) : gb241 ≠ gb242)); have n6_ := Aside0.mk ((by rw [hg]; exact Nat.ne_of_gt (blk_lt (g := gb241) (o := .cells #[.int .i64 a0_0, .slice A0_1 l0_1.length c0_1] 32 (0, 0)) (pk BK241.out)) : gb242 ≠ gb241)); clear BK241; clear HB; have BK241 := n0_; have HB := n1_; have BK242 := n2_; have GW242 := n3_; have GE242 := n4_; have NB241_242 := n5_; have NB242_241 := n6_; clear n0_ n1_ n2_ n3_ n4_ n5_ n6_; clear hb hbox hg; have hnb14 := NB241_242.out; have hnc14 := NB242_241.out; have hcz15_0 : w13.cell? ⟨gb241, 0, none⟩ = some (.int .i64 a0_0) := (blk_cell BK241.out 0).trans rfl; have hcz15_1 : w13.cell? ⟨gb241, 1, none⟩ = some (.slice A0_1 l0_1.length c0_1) := (blk_cell BK241.out 1).trans rfl; have hfz15_0 := blk_frozen BK241.out 0; have hfz15_1 := blk_frozen BK241.out 1) | ((with_reducible refine gate_callee (f := 19) rfl ?_); refine goesL_ (some 19) rfl rfl Try.func19 (by kernel_rfl) rfl #[.agg #[.int .i64 a0_0, .slice A0_1 l0_1.length c0_1], .int .i64 1048576] rfl (by (try simp only [List.map_toArray, List.map_cons, List.map_nil]); first | done | rfl | (simp only [List.length_drop, List.length_take]; rfl)) ?_; (with_reducible refine (laws_szRing.calls a0_0 _ _ l0_1 1048576 t243 _ ?side1 ?side2 A3.out).mono ?_); (case side1 => repeat (first | exact (Kd.C_below HR0_1.out HB.out) | (with_reducible refine Kd.C_alloc ?_ _) | (with_reducible refine Kd.C_drewN ?_ _) | (with_reducible refine Kd.C_drew ?_))); (case side2 => exact HC0_1.out); rintro e w16 ⟨rfl, hb⟩; refine ⟨_, rfl, ?_⟩; have n0_ := Aside0.mk (blk_below (pk BK241.out) hb); have n1_ := Aside0.mk (blk_below (pk BK242.out) hb); have n2_ := Aside0.mk (below_step (bks HB.out) hb); clear BK241; clear BK242; clear HB; have BK241 := n0_; have BK242 := n1_; have HB := n2_; clear n0_ n1_ n2_; (try clear hb); (try clear hb2); (try clear hk); (try clear hi); have hcz17_0 : w16.cell? ⟨gb242, 0, none⟩ = some (.int .i64 a1_0) := (blk_cell BK242.out 0).trans rfl; have hcz17_1 : w16.cell? ⟨gb242, 1, none⟩ = some (.slice A1_1 l1_1.length c1_1) := (blk_cell BK242.out 1).trans rfl; have hfz17_0 := blk_frozen BK242.out 0; have hfz17_1 := blk_frozen BK242.out 1) | ((with_reducible refine gate_callee (f := 19) rfl ?_); refine goesL_ (some 24) rfl rfl Try.func19 (by kernel_rfl) rfl #[.agg #[.int .i64 a1_0, .slice A1_1 l1_1.length c1_1], .int .i64 t243] rfl (by (try simp only [List.map_toArray, List.map_cons, List.map_nil]); first | done | rfl | (simp only [List.length_drop, List.length_take]; rfl)) ?_; (with_reducible refine (laws_szRing.calls a1_0 _ _ l1_1 t243 t244 _ ?side1 ?side2 A10.out).mono ?_); (case side1 => repeat (first | exact (Kd.C_below HR1_1.out HB.out) | (with_reducible refine Kd.C_alloc ?_ _) | (with_reducible refine Kd.C_drewN ?_ _) | (with_reducible refine Kd.C_drew ?_))); (case side2 => exact HC1_1.out); rintro e w18 ⟨rfl, hb⟩; refine ⟨_, rfl, ?_⟩; have n0_ := Aside0.mk (blk_below (pk BK241.out) hb); have n1_ := Aside0.mk (blk_below (pk BK242.out) hb); have n2_ := Aside0.mk (below_step (bks HB.out) hb); clear BK241; clear BK242; clear HB; have BK241 := n0_; have BK242 := n1_; have HB := n2_; clear n0_ n1_ n2_; (try clear hb); (try clear hb2); (try clear hk); (try clear hi)))
      go_ret
      exact ⟨by first | rfl | (simp [errW_none, errW_some] <;> rfl) | (simp [*, errW_none, errW_some] <;> rfl), bks HB.out⟩
    · rw [if_neg c11] at H
      have c11b0 : decide (t244 < 0) = false := decide_eq_false c11
      clear c11
      replace H := Option.bind_eq_some_iff.mp H
      obtain ⟨⟨t245, t246⟩, A190, H⟩ := H
      try dsimp only at H
      have A19 := Aside0.mk A190
      clear A190
      replace H := Option.bind_eq_some_iff.mp H
      obtain ⟨⟨t249, t250⟩, A200, H⟩ := H
      try dsimp only at H
      have A20 := Aside0.mk A200
      clear A200
      replace H := Option.bind_eq_some_iff.mp H
      obtain ⟨⟨t253, t254, t257⟩, A210, H⟩ := H
      try dsimp only at H
      have A21 := Aside0.mk A210
      clear A210
      replace H := Option.bind_eq_some_iff.mp H
      obtain ⟨⟨t259, t260⟩, A220, H⟩ := H
      try dsimp only at H
      have A22 := Aside0.mk A220
      clear A220
      replace H := Option.bind_eq_some_iff.mp H
      obtain ⟨⟨t264, t265⟩, A230, H⟩ := H
      try dsimp only at H
      have A23 := Aside0.mk A230
      clear A230
      replace H := Option.bind_eq_some_iff.mp H
      obtain ⟨⟨t269, t270, t273⟩, A240, H⟩ := H
      try dsimp only at H
      have A24 := Aside0.mk A240
      clear A240
      replace H := Option.bind_eq_some_iff.mp H
      obtain ⟨t275, A250, H⟩ := H
      try dsimp only at H
      have A25 := Aside0.mk A250
      clear A250
      by_cases c26 : t275 = true
      rotate_left
      · replace c26 := Bool.eq_false_iff.mpr c26
        subst c26
        have H1 : (none) = some r := by rw [if_neg (show ¬ (false = true) by decide)] at H; exact H
        clear H
        have H := H1
        clear H1
        exact absurd H (by simp)
      subst c26
      have H1 : (if t273 = t257 then ((laws_toRing.f k a0_0 l0_1).bind fun bt276 => ((laws_eqRing.f k t259 t260 bt276.1 bt276.2).bind fun t280 => (if t280 = true then ((laws_toRing.f k a1_0 l1_1).bind fun bt281 => ((laws_eqRing.f k t264 t265 bt281.1 bt281.2).bind fun t285 => (if t285 = true then ((laws_markRing.f k t259 t260 1).bind fun bt286 => ((laws_markRing.f k t264 t265 bt286.1).bind fun bt288 => (if bt288.1 < 0 then (none) else ((laws_eqRing.f k t269 t270 t253 t254).bind fun t290 => (if t290 = true then ((laws_markRing.f k t269 t270 1).bind fun bt291 => ((laws_heldRing.f k t269 bt291.2 1).bind fun t293 => (if t293 < 0 then (none) else (if t293 = bt291.1 then ((laws_toRing.f k a0_0 l0_1).bind fun bt294 => ((laws_toRing.f k a1_0 l1_1).bind fun bt298 => ((impl_MultiplyRings.f k bt294.1 bt294.2 bt298.1 bt298.2).bind fun bt302 => ((laws_eqRing.f k bt302.1 bt302.2.1 t253 t254).bind fun t308 => (if t308 = true then (if bt302.2.2 = t257 then ((laws_heldRing.f k t269 bt291.2 1).bind fun t309 => (if t309 < 0 then (none) else (if t309 = bt291.1 then (some true) else (none)))) else (none)) else (none)))))) else (none))))) else (none)))))) else (none)))) else (none)))) else (none)) = some r := by rw [if_pos rfl] at H; exact H
      clear H
      have H := H1
      clear H1
      by_cases c27 : t273 = t257
      rotate_left
      · rw [if_neg c27] at H; exact absurd H (by simp)
      rw [if_pos c27] at H
      have c27b0 : (t273 == t257) = true := beq_iff_eq.mpr c27
      have c27b1 : (t273 != t257) = false := bne_eq_false_iff_eq.mpr c27
      clear c27
      replace H := Option.bind_eq_some_iff.mp H
      obtain ⟨⟨t276, t277⟩, A280, H⟩ := H
      try dsimp only at H
      have A28 := Aside0.mk A280
      clear A280
      replace H := Option.bind_eq_some_iff.mp H
      obtain ⟨t280, A290, H⟩ := H
      try dsimp only at H
      have A29 := Aside0.mk A290
      clear A290
      by_cases c30 : t280 = true
      rotate_left
      · replace c30 := Bool.eq_false_iff.mpr c30
        subst c30
        have H1 : (none) = some r := by rw [if_neg (show ¬ (false = true) by decide)] at H; exact H
        clear H
        have H := H1
        clear H1
        exact absurd H (by simp)
      subst c30
      have H1 : ((laws_toRing.f k a1_0 l1_1).bind fun bt281 => ((laws_eqRing.f k t264 t265 bt281.1 bt281.2).bind fun t285 => (if t285 = true then ((laws_markRing.f k t259 t260 1).bind fun bt286 => ((laws_markRing.f k t264 t265 bt286.1).bind fun bt288 => (if bt288.1 < 0 then (none) else ((laws_eqRing.f k t269 t270 t253 t254).bind fun t290 => (if t290 = true then ((laws_markRing.f k t269 t270 1).bind fun bt291 => ((laws_heldRing.f k t269 bt291.2 1).bind fun t293 => (if t293 < 0 then (none) else (if t293 = bt291.1 then ((laws_toRing.f k a0_0 l0_1).bind fun bt294 => ((laws_toRing.f k a1_0 l1_1).bind fun bt298 => ((impl_MultiplyRings.f k bt294.1 bt294.2 bt298.1 bt298.2).bind fun bt302 => ((laws_eqRing.f k bt302.1 bt302.2.1 t253 t254).bind fun t308 => (if t308 = true then (if bt302.2.2 = t257 then ((laws_heldRing.f k t269 bt291.2 1).bind fun t309 => (if t309 < 0 then (none) else (if t309 = bt291.1 then (some true) else (none)))) else (none)) else (none)))))) else (none))))) else (none)))))) else (none)))) = some r := by rw [if_pos rfl] at H; exact H
      clear H
      have H := H1
      clear H1
      replace H := Option.bind_eq_some_iff.mp H
      obtain ⟨⟨t281, t282⟩, A310, H⟩ := H
      try dsimp only at H
      have A31 := Aside0.mk A310
      clear A310
      replace H := Option.bind_eq_some_iff.mp H
      obtain ⟨t285, A320, H⟩ := H
      try dsimp only at H
      have A32 := Aside0.mk A320
      clear A320
      by_cases c33 : t285 = true
      rotate_left
      · replace c33 := Bool.eq_false_iff.mpr c33
        subst c33
        have H1 : (none) = some r := by rw [if_neg (show ¬ (false = true) by decide)] at H; exact H
        clear H
        have H := H1
        clear H1
        exact absurd H (by simp)
      subst c33
      have H1 : ((laws_markRing.f k t259 t260 1).bind fun bt286 => ((laws_markRing.f k t264 t265 bt286.1).bind fun bt288 => (if bt288.1 < 0 then (none) else ((laws_eqRing.f k t269 t270 t253 t254).bind fun t290 => (if t290 = true then ((laws_markRing.f k t269 t270 1).bind fun bt291 => ((laws_heldRing.f k t269 bt291.2 1).bind fun t293 => (if t293 < 0 then (none) else (if t293 = bt291.1 then ((laws_toRing.f k a0_0 l0_1).bind fun bt294 => ((laws_toRing.f k a1_0 l1_1).bind fun bt298 => ((impl_MultiplyRings.f k bt294.1 bt294.2 bt298.1 bt298.2).bind fun bt302 => ((laws_eqRing.f k bt302.1 bt302.2.1 t253 t254).bind fun t308 => (if t308 = true then (if bt302.2.2 = t257 then ((laws_heldRing.f k t269 bt291.2 1).bind fun t309 => (if t309 < 0 then (none) else (if t309 = bt291.1 then (some true) else (none)))) else (none)) else (none)))))) else (none))))) else (none)))))) = some r := by rw [if_pos rfl] at H; exact H
      clear H
      have H := H1
      clear H1
      replace H := Option.bind_eq_some_iff.mp H
      obtain ⟨⟨t286, t287⟩, A340, H⟩ := H
      try dsimp only at H
      have A34 := Aside0.mk A340
      clear A340
      replace H := Option.bind_eq_some_iff.mp H
      obtain ⟨⟨t288, t289⟩, A350, H⟩ := H
      try dsimp only at H
      have A35 := Aside0.mk A350
      clear A350
      by_cases c36 : t288 < 0
      · rw [if_pos c36] at H; exact absurd H (by simp)
      rw [if_neg c36] at H
      have c36b0 : decide (t288 < 0) = false := decide_eq_false c36
      clear c36
      replace H := Option.bind_eq_some_iff.mp H
      obtain ⟨t290, A370, H⟩ := H
      try dsimp only at H
      have A37 := Aside0.mk A370
      clear A370
      by_cases c38 : t290 = true
      rotate_left
      · replace c38 := Bool.eq_false_iff.mpr c38
        subst c38
        have H1 : (none) = some r := by rw [if_neg (show ¬ (false = true) by decide)] at H; exact H
        clear H
        have H := H1
        clear H1
        exact absurd H (by simp)
      subst c38
      have H1 : ((laws_markRing.f k t269 t270 1).bind fun bt291 => ((laws_heldRing.f k t269 bt291.2 1).bind fun t293 => (if t293 < 0 then (none) else (if t293 = bt291.1 then ((laws_toRing.f k a0_0 l0_1).bind fun bt294 => ((laws_toRing.f k a1_0 l1_1).bind fun bt298 => ((impl_MultiplyRings.f k bt294.1 bt294.2 bt298.1 bt298.2).bind fun bt302 => ((laws_eqRing.f k bt302.1 bt302.2.1 t253 t254).bind fun t308 => (if t308 = true then (if bt302.2.2 = t257 then ((laws_heldRing.f k t269 bt291.2 1).bind fun t309 => (if t309 < 0 then (none) else (if t309 = bt291.1 then (some true) else (none)))) else (none)) else (none)))))) else (none))))) = some r := by rw [if_pos rfl] at H; exact H
      clear H
      have H := H1
      clear H1
      replace H := Option.bind_eq_some_iff.mp H
      obtain ⟨⟨t291, t292⟩, A390, H⟩ := H
      try dsimp only at H
      have A39 := Aside0.mk A390
      clear A390
      replace H := Option.bind_eq_some_iff.mp H
      obtain ⟨t293, A400, H⟩ := H
      try dsimp only at H
      have A40 := Aside0.mk A400
      clear A400
      by_cases c41 : t293 < 0
      · rw [if_pos c41] at H; exact absurd H (by simp)
      rw [if_neg c41] at H
      have c41b0 : decide (t293 < 0) = false := decide_eq_false c41
      clear c41
      by_cases c42 : t293 = t291
      rotate_left
      · rw [if_neg c42] at H; exact absurd H (by simp)
      rw [if_pos c42] at H
      have c42b0 : (t293 == t291) = true := beq_iff_eq.mpr c42
      have c42b1 : (t293 != t291) = false := bne_eq_false_iff_eq.mpr c42
      clear c42
      replace H := Option.bind_eq_some_iff.mp H
      obtain ⟨⟨t294, t295⟩, A430, H⟩ := H
      try dsimp only at H
      have A43 := Aside0.mk A430
      clear A430
      replace H := Option.bind_eq_some_iff.mp H
      obtain ⟨⟨t298, t299⟩, A440, H⟩ := H
      try dsimp only at H
      have A44 := Aside0.mk A440
      clear A440
      replace H := Option.bind_eq_some_iff.mp H
      obtain ⟨⟨t302, t303, t306⟩, A450, H⟩ := H
      try dsimp only at H
      have A45 := Aside0.mk A450
      clear A450
      replace H := Option.bind_eq_some_iff.mp H
      obtain ⟨t308, A460, H⟩ := H
      try dsimp only at H
      have A46 := Aside0.mk A460
      clear A460
      by_cases c47 : t308 = true
      rotate_left
      · replace c47 := Bool.eq_false_iff.mpr c47
        subst c47
        have H1 : (none) = some r := by rw [if_neg (show ¬ (false = true) by decide)] at H; exact H
        clear H
        have H := H1
        clear H1
        exact absurd H (by simp)
      subst c47
      have H1 : (if t306 = t257 then ((laws_heldRing.f k t269 t292 1).bind fun t309 => (if t309 < 0 then (none) else (if t309 = t291 then (some true) else (none)))) else (none)) = some r := by rw [if_pos rfl] at H; exact H
      clear H
      have H := H1
      clear H1
      by_cases c48 : t306 = t257
      rotate_left
      · rw [if_neg c48] at H; exact absurd H (by simp)
      rw [if_pos c48] at H
      have c48b0 : (t306 == t257) = true := beq_iff_eq.mpr c48
      have c48b1 : (t306 != t257) = false := bne_eq_false_iff_eq.mpr c48
      clear c48
      replace H := Option.bind_eq_some_iff.mp H
      obtain ⟨t309, A490, H⟩ := H
      try dsimp only at H
      have A49 := Aside0.mk A490
      clear A490
      by_cases c50 : t309 < 0
      · rw [if_pos c50] at H; exact absurd H (by simp)
      rw [if_neg c50] at H
      have c50b0 : decide (t309 < 0) = false := decide_eq_false c50
      clear c50
      by_cases c51 : t309 = t291
      rotate_left
      · rw [if_neg c51] at H; exact absurd H (by simp)
      rw [if_pos c51] at H
      have c51b0 : (t309 == t291) = true := beq_iff_eq.mpr c51
      have c51b1 : (t309 != t291) = false := bne_eq_false_iff_eq.mpr c51
      clear c51
      obtain rfl := Option.some.inj H
      go_enter Try.func8, Try.ntmps8
      try go_wp2_with (first | ((with_reducible refine gate_dst (N := 2) rfl ?_); refine box_event ?hg (N := 2) ?hd (cs := #[.int .i64 a0_0, .slice A0_1 l0_1.length c0_1]) (t := 32) ?hr ?_; (case hd => rfl); (case hg => rfl); (case hr => first | (go_simp; done) | (go_simp; rfl)); intro gb241 hg w52 hbox hb; have n0_ := Aside0.mk (below_step (bk HB.out) hb); have n1_ := Aside0.mk (hbox); have n2_ := Aside0.mk ((by rw [hg]; exact (below_size (bk HB.out)) : w.heap.size ≤ gb241)); have n3_ := Aside0.mk ((by rw [hg]; exact (below_size (bk HB.out)) : w.heap.size ≤ gb241)); clear HB; have HB := n0_; have BK241 := n1_; have GW241 := n2_; have GE241 := n3_; clear n0_ n1_ n2_ n3_; clear hb hbox hg) | ((with_reducible refine gate_dst (N := 3) rfl ?_); refine box_event ?hg (N := 3) ?hd (cs := #[.int .i64 a1_0, .slice A1_1 l1_1.length c1_1]) (t := 32) ?hr ?_; (case hd => rfl); (case hg => rfl); (case hr => first | (go_simp; done) | (go_simp; rfl)); intro gb242 hg w53 hbox hb; have n0_ := Aside0.mk (blk_below (pk BK241.out) hb); have n1_ := Aside0.mk (below_step (bks HB.out) hb); have n2_ := Aside0.mk (hbox); have n3_ := Aside0.mk ((by rw [hg]; exact (below_size (bks HB.out)) : w.heap.size ≤ gb242)); have n4_ := Aside0.mk ((by rw [hg]; exact (below_size (bks HB.out)) : w.heap.size ≤ gb242)); have n5_ := Aside0.mk ((by rw [hg]; exact Nat.ne_of_lt (blk_lt (g := gb241) (o := .cells #[.int .i64 a0_0, .slice A0_1 l0_1.length c0_1] 32 (0, 0)) (pk BK241.out)) : gb241 ≠ gb242)); have n6_ := Aside0.mk ((by rw [hg]; exact Nat.ne_of_gt (blk_lt (g := gb241) (o := .cells #[.int .i64 a0_0, .slice A0_1 l0_1.length c0_1] 32 (0, 0)) (pk BK241.out)) : gb242 ≠ gb241)); clear BK241; clear HB; have BK241 := n0_; have HB := n1_; have BK242 := n2_; have GW242 := n3_; have GE242 := n4_; have NB241_242 := n5_; have NB242_241 := n6_; clear n0_ n1_ n2_ n3_ n4_ n5_ n6_; clear hb hbox hg; have hnb54 := NB241_242.out; have hnc54 := NB242_241.out; have hcz55_0 : w53.cell? ⟨gb241, 0, none⟩ = some (.int .i64 a0_0) := (blk_cell BK241.out 0).trans rfl; have hcz55_1 : w53.cell? ⟨gb241, 1, none⟩ = some (.slice A0_1 l0_1.length c0_1) := (blk_cell BK241.out 1).trans rfl; have hfz55_0 := blk_frozen BK241.out 0; have hfz55_1 := blk_frozen BK241.out 1) | ((with_reducible refine gate_callee (f := 19) rfl ?_); refine goesL_ (some 19) rfl rfl Try.func19 (by kernel_rfl) rfl #[.agg #[.int .i64 a0_0, .slice A0_1 l0_1.length c0_1], .int .i64 1048576] rfl (by (try simp only [List.map_toArray, List.map_cons, List.map_nil]); first | done | rfl | (simp only [List.length_drop, List.length_take]; rfl)) ?_; (with_reducible refine (laws_szRing.calls a0_0 _ _ l0_1 1048576 t243 _ ?side1 ?side2 A3.out).mono ?_); (case side1 => repeat (first | exact (Kd.C_below HR0_1.out HB.out) | (with_reducible refine Kd.C_alloc ?_ _) | (with_reducible refine Kd.C_drewN ?_ _) | (with_reducible refine Kd.C_drew ?_))); (case side2 => exact HC0_1.out); rintro e w56 ⟨rfl, hb⟩; refine ⟨_, rfl, ?_⟩; have n0_ := Aside0.mk (blk_below (pk BK241.out) hb); have n1_ := Aside0.mk (blk_below (pk BK242.out) hb); have n2_ := Aside0.mk (below_step (bks HB.out) hb); clear BK241; clear BK242; clear HB; have BK241 := n0_; have BK242 := n1_; have HB := n2_; clear n0_ n1_ n2_; (try clear hb); (try clear hb2); (try clear hk); (try clear hi); have hcz57_0 : w56.cell? ⟨gb242, 0, none⟩ = some (.int .i64 a1_0) := (blk_cell BK242.out 0).trans rfl; have hcz57_1 : w56.cell? ⟨gb242, 1, none⟩ = some (.slice A1_1 l1_1.length c1_1) := (blk_cell BK242.out 1).trans rfl; have hfz57_0 := blk_frozen BK242.out 0; have hfz57_1 := blk_frozen BK242.out 1) | ((with_reducible refine gate_callee (f := 19) rfl ?_); refine goesL_ (some 24) rfl rfl Try.func19 (by kernel_rfl) rfl #[.agg #[.int .i64 a1_0, .slice A1_1 l1_1.length c1_1], .int .i64 t243] rfl (by (try simp only [List.map_toArray, List.map_cons, List.map_nil]); first | done | rfl | (simp only [List.length_drop, List.length_take]; rfl)) ?_; (with_reducible refine (laws_szRing.calls a1_0 _ _ l1_1 t243 t244 _ ?side1 ?side2 A10.out).mono ?_); (case side1 => repeat (first | exact (Kd.C_below HR1_1.out HB.out) | (with_reducible refine Kd.C_alloc ?_ _) | (with_reducible refine Kd.C_drewN ?_ _) | (with_reducible refine Kd.C_drew ?_))); (case side2 => exact HC1_1.out); rintro e w58 ⟨rfl, hb⟩; refine ⟨_, rfl, ?_⟩; have n0_ := Aside0.mk (blk_below (pk BK241.out) hb); have n1_ := Aside0.mk (blk_below (pk BK242.out) hb); have n2_ := Aside0.mk (below_step (bks HB.out) hb); clear BK241; clear BK242; clear HB; have BK241 := n0_; have BK242 := n1_; have HB := n2_; clear n0_ n1_ n2_; (try clear hb); (try clear hb2); (try clear hk); (try clear hi)))
      have n0_ := Aside0.mk (blk_drew BK241.out)
      have n1_ := Aside0.mk (blk_drew BK242.out)
      have n2_ := Aside0.mk (below_drew1 HB.out)
      clear BK241 BK242 HB
      have BK241 := n0_
      have BK242 := n1_
      have HB := n2_
      clear n0_ n1_ n2_
      refine start_ (n := 11) (S := fun w' => w'.cell? ⟨gb241, 0, none⟩ = some (.int .i64 a0_0) ∧ w'.cell? ⟨gb241, 1, none⟩ = some (.slice A0_1 l0_1.length c0_1) ∧ w'.cell? ⟨gb242, 0, none⟩ = some (.int .i64 a1_0) ∧ w'.cell? ⟨gb242, 1, none⟩ = some (.slice A1_1 l1_1.length c1_1)) (ds := []) #[false, false, false, false, false, false, false, false, false, false, false] (by kernel_rfl) rfl rfl ⟨(blk_cell BK241.out 0).trans rfl, (blk_cell BK241.out 1).trans rfl, (blk_cell BK242.out 0).trans rfl, (blk_cell BK242.out 1).trans rfl⟩ (fun hHeld => ?_); refine with_tabW laws_FnExactMultiplyRings.tab8 laws_FnExactMultiplyRings.bits8 (fun HT_ HW_ => ?_)
      generalize w58.drew = w59 at BK241 BK242 HB hHeld ⊢
      refine take_ (i := 0) (N := some 28) (v := ?_) (a' := ?_) #[true, false, false, false, false, false, false, false, false, false, false] rfl rfl (take_ofW HT_.out HW_.out (by kernel_rfl)) (fun _ _ _ h => h) (Or.inl ⟨by rfl, ?_⟩) hHeld ?_ ?_
      rotate_left
      · rintro w' ⟨s0, s1, s2, s3⟩
        go_simp
        with_reducible rfl
      rotate_left
      · simp only [Act.put, List.setIfInBounds_toArray, List.set_cons_zero, List.set_cons_succ, i64_w, i32_w]
        rfl
      refine take_ (i := 2) (N := some 30) (v := ?_) (a' := ?_) #[true, false, true, false, false, false, false, false, false, false, false] rfl rfl (take_ofW HT_.out HW_.out (by kernel_rfl)) (fun _ _ _ h => h) (Or.inl ⟨by rfl, ?_⟩) hHeld ?_ ?_
      rotate_left
      · rintro w' ⟨s0, s1, s2, s3⟩
        go_simp
        with_reducible rfl
      rotate_left
      · simp only [Act.put, List.setIfInBounds_toArray, List.set_cons_zero, List.set_cons_succ, i64_w, i32_w]
        rfl
      refine join_ (σ := Value × Value × Value × Nat) 2 #[true, true, true, true, true, true, true, true, true, false, false] (fun s_ => [(29, .agg #[.int .i64 t245, s_.1]), (31, .agg #[.int .i64 t249, s_.2.1]), (32, .tuple #[.agg #[.int .i64 t253, s_.2.2.1], .int .i64 t257]), (6, .pointer (some ⟨s_.2.2.2, 0, none⟩)), (27, .tuple #[.agg #[.int .i64 t253, s_.2.2.1], .int .i64 t257]), (33, .agg #[.int .i64 t253, s_.2.2.1]), (34, .int .i64 t257)]) (fun s_ w' => (w'.cell? ⟨gb241, 0, none⟩ = some (.int .i64 a0_0) ∧ w'.cell? ⟨gb241, 1, none⟩ = some (.slice A0_1 l0_1.length c0_1) ∧ w'.cell? ⟨gb242, 0, none⟩ = some (.int .i64 a1_0) ∧ w'.cell? ⟨gb242, 1, none⟩ = some (.slice A1_1 l1_1.length c1_1)) ∧ (Kd.R (Kd.int .i64) 2 w' w.heap.size (fun k_ => some k_ ≠ (s_.2.1 : Value).ownBlock ∧ some k_ ≠ (s_.2.2.1 : Value).ownBlock) s_.1 t246) ∧ (Kd.R (Kd.int .i64) 2 w' w.heap.size (fun k_ => some k_ ≠ (s_.1 : Value).ownBlock ∧ some k_ ≠ (s_.2.2.1 : Value).ownBlock) s_.2.1 t250) ∧ (Kd.R (Kd.int .i64) 2 w' w.heap.size (fun k_ => some k_ ≠ (s_.1 : Value).ownBlock ∧ some k_ ≠ (s_.2.1 : Value).ownBlock) s_.2.2.1 t254) ∧ (w'.heap[gb241]? = some (.cells #[.int .i64 a0_0, .slice A0_1 l0_1.length c0_1] 32 (0, 0))) ∧ (w'.heap[gb242]? = some (.cells #[.int .i64 a1_0, .slice A1_1 l1_1.length c1_1] 32 (0, 0))) ∧ (w'.heap[s_.2.2.2]? = some (.cells #[.int .i64 0, .slice none 0 0] 24 (0, 0))) ∧ (w.heap.size ≤ s_.2.2.2) ∧ (w.heap.size ≤ s_.2.2.2) ∧ (gb241 ≠ s_.2.2.2) ∧ (s_.2.2.2 ≠ gb241) ∧ (gb242 ≠ s_.2.2.2) ∧ (s_.2.2.2 ≠ gb242) ∧ (Below w.heap.size w w')) ?_ ?_
      rotate_left
      · intro hCont
        refine two_ (i := 1) (j := 8) (Ni := some 29) (Nj := some 6) #[true, true, true, false, false, false, false, false, false, false, false] #[true, false, true, false, false, false, false, false, true, false, false] rfl rfl rfl rfl (two_of HT_.out (by kernel_rfl)) (by decide) (by decide) (fun K hK => ?_) (fun K hK => ?_)
        · skip
          refine goes_ Try.func21 (by kernel_rfl) rfl #[.agg #[.int .i64 a0_0, .slice A0_1 l0_1.length c0_1]] (by rfl) rfl rfl (by (try simp only [List.map_toArray, List.map_cons, List.map_nil]); first | done | rfl | (simp only [List.length_drop, List.length_take]; rfl)) ?_
          with_reducible refine (laws_toRing.calls k a0_0 _ _ l0_1 t245 t246 _ ?side1 ?side2 A19.out).mono ?_
          (case side1 => repeat (first | exact (Kd.C_below HR0_1.out HB.out) | (with_reducible refine Kd.C_alloc ?_ _) | (with_reducible refine Kd.C_drewN ?_ _) | (with_reducible refine Kd.C_drew ?_)))
          (case side2 => exact HC0_1.out)
          rintro e w60 ⟨v247, rfl, ho0, hb⟩
          refine ⟨_, rfl, ?_⟩
          have n0_ := Aside0.mk (Kd.R_lower ho0 (below_size (bks HB.out)))
          have n1_ := Aside0.mk (blk_below (pk BK241.out) hb)
          have n2_ := Aside0.mk (blk_below (pk BK242.out) hb)
          have n3_ := Aside0.mk (below_step (bks HB.out) hb)
          clear BK241 BK242 HB
          have HO248 := n0_
          have BK241 := n1_
          have BK242 := n2_
          have HB := n3_
          clear n0_ n1_ n2_ n3_
          (try clear hb)
          (try clear hb2)
          (try clear hk)
          (try clear hi)
          (try clear ho0)
          refine hK.out _ _ ⟨(blk_cell BK241.out 0).trans rfl, (blk_cell BK241.out 1).trans rfl, (blk_cell BK242.out 0).trans rfl, (blk_cell BK242.out 1).trans rfl⟩ (fun hHeld => ?_)
          clear hK K
          refine norm_ (a' := ?_) ?_ ?_
          rotate_left
          · show Act.put _ (some 29) _ = _
            simp only [Act.put, List.setIfInBounds_toArray, List.set_cons_zero, List.set_cons_succ, i64_w, i32_w]
            rfl
          refine two_ (i := 3) (j := 8) (Ni := some 31) (Nj := some 6) #[true, true, true, true, false, false, false, false, false, false, false] #[true, true, true, false, false, false, false, false, true, false, false] rfl rfl rfl rfl (two_of HT_.out (by kernel_rfl)) (by decide) (by decide) (fun K hK => ?_) (fun K hK => ?_)
          · skip
            refine goes_ Try.func21 (by kernel_rfl) rfl #[.agg #[.int .i64 a1_0, .slice A1_1 l1_1.length c1_1]] (by rfl) rfl rfl (by (try simp only [List.map_toArray, List.map_cons, List.map_nil]); first | done | rfl | (simp only [List.length_drop, List.length_take]; rfl)) ?_
            with_reducible refine (laws_toRing.calls k a1_0 _ _ l1_1 t249 t250 _ ?side1 ?side2 A20.out).mono ?_
            (case side1 => repeat (first | exact (Kd.C_below HR1_1.out HB.out) | (with_reducible refine Kd.C_alloc ?_ _) | (with_reducible refine Kd.C_drewN ?_ _) | (with_reducible refine Kd.C_drew ?_)))
            (case side2 => exact HC1_1.out)
            rintro e w61 ⟨v251, rfl, ho0, hb⟩
            refine ⟨_, rfl, ?_⟩
            have n0_ := Aside0.mk (Kd.R_elder' (rk HO248.out) (Kd.R_base ho0) hb)
            have n1_ := Aside0.mk (Kd.R_lower (Kd.R_new' ho0 (Kd.R_lt (rk HO248.out))) (below_size (bks HB.out)))
            have n2_ := Aside0.mk (blk_below (pk BK241.out) hb)
            have n3_ := Aside0.mk (blk_below (pk BK242.out) hb)
            have n4_ := Aside0.mk (below_step (bks HB.out) hb)
            clear HO248 BK241 BK242 HB
            have HO248 := n0_
            have HO252 := n1_
            have BK241 := n2_
            have BK242 := n3_
            have HB := n4_
            clear n0_ n1_ n2_ n3_ n4_
            (try clear hb)
            (try clear hb2)
            (try clear hk)
            (try clear hi)
            (try clear ho0)
            obtain ⟨Ao62, co62, eo62⟩ := Kd.R_slice HO248.out
            (first | subst eo62 | (injection eo62 with f1_ f2_ f3_; have f4_ := f1_.symm; have f5_ := f3_.symm; clear f1_ f2_ f3_; subst f4_; subst f5_))
            obtain ⟨Ao63, co63, eo63⟩ := Kd.R_slice HO252.out
            (first | subst eo63 | (injection eo63 with f1_ f2_ f3_; have f4_ := f1_.symm; have f5_ := f3_.symm; clear f1_ f2_ f3_; subst f4_; subst f5_))
            refine hK.out _ _ ⟨(blk_cell BK241.out 0).trans rfl, (blk_cell BK241.out 1).trans rfl, (blk_cell BK242.out 0).trans rfl, (blk_cell BK242.out 1).trans rfl⟩ (fun hHeld => ?_)
            clear hK K
            refine norm_ (a' := ?_) ?_ ?_
            rotate_left
            · show Act.put _ (some 31) _ = _
              simp only [Act.put, List.setIfInBounds_toArray, List.set_cons_zero, List.set_cons_succ, i64_w, i32_w]
              rfl
            refine two_ (i := 4) (j := 8) (Ni := some 32) (Nj := some 6) #[true, true, true, true, true, false, false, false, false, false, false] #[true, true, true, true, false, false, false, false, true, false, false] rfl rfl rfl rfl (two_of HT_.out (by kernel_rfl)) (by decide) (by decide) (fun K hK => ?_) (fun K hK => ?_)
            · skip
              refine goes_ Try.func27 (by kernel_rfl) rfl #[.agg #[.int .i64 t245, .slice Ao62 t246.length co62], .agg #[.int .i64 t249, .slice Ao63 t250.length co63]] (by rfl) rfl rfl (by (try simp only [List.map_toArray, List.map_cons, List.map_nil]); first | done | rfl | (simp only [List.length_drop, List.length_take]; rfl)) ?_
              with_reducible refine (spec_MultiplyRings.calls k t245 _ _ t246 t249 _ _ t250 t253 t254 t257 _ ?side1 ?side2 ?side3 ?side4 A21.out).mono ?_
              (case side1 => repeat (first | exact (Kd.R_reads' HO248.out).2.2 | (with_reducible refine Kd.C_alloc ?_ _) | (with_reducible refine Kd.C_drewN ?_ _) | (with_reducible refine Kd.C_drew ?_)))
              (case side2 => exact (Kd.R_reads' HO248.out).2.1)
              (case side3 => repeat (first | exact (Kd.R_reads' HO252.out).2.2 | (with_reducible refine Kd.C_alloc ?_ _) | (with_reducible refine Kd.C_drewN ?_ _) | (with_reducible refine Kd.C_drew ?_)))
              (case side4 => exact (Kd.R_reads' HO252.out).2.1)
              rintro e w64 ⟨v255, rfl, ho0, hb⟩
              refine ⟨_, rfl, ?_⟩
              have n0_ := Aside0.mk (Kd.R_elder' (rk HO248.out) (Kd.R_base ho0) hb)
              have n1_ := Aside0.mk (Kd.R_elder' (rk HO252.out) (Kd.R_base ho0) hb)
              have n2_ := Aside0.mk (Kd.R_lower (Kd.R_new' (Kd.R_new' ho0 (Kd.R_lt (rk HO248.out))) (Kd.R_lt (rk HO252.out))) (below_size (bks HB.out)))
              have n3_ := Aside0.mk (blk_below (pk BK241.out) hb)
              have n4_ := Aside0.mk (blk_below (pk BK242.out) hb)
              have n5_ := Aside0.mk (below_step (bks HB.out) hb)
              clear HO248 HO252 BK241 BK242 HB
              have HO248 := n0_
              have HO252 := n1_
              have HO256 := n2_
              have BK241 := n3_
              have BK242 := n4_
              have HB := n5_
              clear n0_ n1_ n2_ n3_ n4_ n5_
              (try clear hb)
              (try clear hb2)
              (try clear hk)
              (try clear hi)
              (try clear ho0)
              refine hK.out _ _ ⟨(blk_cell BK241.out 0).trans rfl, (blk_cell BK241.out 1).trans rfl, (blk_cell BK242.out 0).trans rfl, (blk_cell BK242.out 1).trans rfl⟩ (fun hHeld => ?_)
              clear hK K
              refine norm_ (a' := ?_) ?_ ?_
              rotate_left
              · show Act.put _ (some 32) _ = _
                simp only [Act.put, List.setIfInBounds_toArray, List.set_cons_zero, List.set_cons_succ, i64_w, i32_w]
                rfl
              refine pure_ (i := 5) (N := some 27) (v := ?_) (a' := ?_) #[true, true, true, true, true, true, false, false, false, false, false] rfl rfl (any_of HT_.out (by kernel_rfl)) (fun _ _ _ h => h) (Or.inl ⟨by rfl, ?_⟩) ?_ ?_
              rotate_left
              · intro w'
                go_simp
                with_reducible rfl
              rotate_left
              · simp only [Act.put, List.setIfInBounds_toArray, List.set_cons_zero, List.set_cons_succ, i64_w, i32_w]
                rfl
              refine pure_ (i := 6) (N := some 33) (v := ?_) (a' := ?_) #[true, true, true, true, true, true, true, false, false, false, false] rfl rfl (any_of HT_.out (by kernel_rfl)) (fun _ _ _ h => h) (Or.inl ⟨by rfl, ?_⟩) ?_ ?_
              rotate_left
              · intro w'
                go_simp
                with_reducible rfl
              rotate_left
              · simp only [Act.put, List.setIfInBounds_toArray, List.set_cons_zero, List.set_cons_succ, i64_w, i32_w]
                rfl
              refine pure_ (i := 7) (N := some 34) (v := ?_) (a' := ?_) #[true, true, true, true, true, true, true, true, false, false, false] rfl rfl (any_of HT_.out (by kernel_rfl)) (fun _ _ _ h => h) (Or.inl ⟨by rfl, ?_⟩) ?_ ?_
              rotate_left
              · intro w'
                go_simp
                with_reducible rfl
              rotate_left
              · simp only [Act.put, List.setIfInBounds_toArray, List.set_cons_zero, List.set_cons_succ, i64_w, i32_w]
                rfl
              refine one_ (i := 8) (N := some 6) #[true, true, true, true, true, true, true, true, true, false, false] rfl rfl (one_of HT_.out (by kernel_rfl)) (by decide) (fun K hK => ?_)
              refine box_step ?hg (N := 6) ?hd (cs := #[.int .i64 0, .slice none 0 0]) (t := 24) ?hr ?_; (case hd => rfl); (case hg => rfl); (case hr => first | (go_simp; done) | (go_simp; rfl))
              intro gb258 hg w65 hbox hb
              have n0_ := Aside0.mk (Kd.R_below (rk HO248.out) hb)
              have n1_ := Aside0.mk (Kd.R_below (rk HO252.out) hb)
              have n2_ := Aside0.mk (Kd.R_below (rk HO256.out) hb)
              have n3_ := Aside0.mk (blk_below (pk BK241.out) hb)
              have n4_ := Aside0.mk (blk_below (pk BK242.out) hb)
              have n5_ := Aside0.mk (below_step (bks HB.out) hb)
              have n6_ := Aside0.mk (hbox)
              have n7_ := Aside0.mk ((by rw [hg]; exact (below_size (bks HB.out)) : w.heap.size ≤ gb258))
              have n8_ := Aside0.mk ((by rw [hg]; exact (below_size (bks HB.out)) : w.heap.size ≤ gb258))
              have n9_ := Aside0.mk ((by rw [hg]; exact Nat.ne_of_lt (blk_lt (g := gb241) (o := .cells #[.int .i64 a0_0, .slice A0_1 l0_1.length c0_1] 32 (0, 0)) (pk BK241.out)) : gb241 ≠ gb258))
              have n10_ := Aside0.mk ((by rw [hg]; exact Nat.ne_of_gt (blk_lt (g := gb241) (o := .cells #[.int .i64 a0_0, .slice A0_1 l0_1.length c0_1] 32 (0, 0)) (pk BK241.out)) : gb258 ≠ gb241))
              have n11_ := Aside0.mk ((by rw [hg]; exact Nat.ne_of_lt (blk_lt (g := gb242) (o := .cells #[.int .i64 a1_0, .slice A1_1 l1_1.length c1_1] 32 (0, 0)) (pk BK242.out)) : gb242 ≠ gb258))
              have n12_ := Aside0.mk ((by rw [hg]; exact Nat.ne_of_gt (blk_lt (g := gb242) (o := .cells #[.int .i64 a1_0, .slice A1_1 l1_1.length c1_1] 32 (0, 0)) (pk BK242.out)) : gb258 ≠ gb242))
              clear HO248 HO252 HO256 BK241 BK242 HB
              have HO248 := n0_
              have HO252 := n1_
              have HO256 := n2_
              have BK241 := n3_
              have BK242 := n4_
              have HB := n5_
              have BK258 := n6_
              have GW258 := n7_
              have GE258 := n8_
              have NB241_258 := n9_
              have NB258_241 := n10_
              have NB242_258 := n11_
              have NB258_242 := n12_
              clear n0_ n1_ n2_ n3_ n4_ n5_ n6_ n7_ n8_ n9_ n10_ n11_ n12_ hb hbox hg
              refine hK.out _ _ ⟨(blk_cell BK241.out 0).trans rfl, (blk_cell BK241.out 1).trans rfl, (blk_cell BK242.out 0).trans rfl, (blk_cell BK242.out 1).trans rfl⟩ (fun hHeld => ?_)
              clear hK K
              refine norm_ (a' := ?_) ?_ ?_
              rotate_left
              · show Act.put _ (some 6) _ = _
                simp only [Act.put, List.setIfInBounds_toArray, List.set_cons_zero, List.set_cons_succ, i64_w, i32_w]
                rfl
              exact norm_ (by simp only [putAll, Act.put, List.setIfInBounds_toArray, List.set_cons_zero, List.set_cons_succ]) (hCont (.slice Ao62 t246.length co62, .slice Ao63 t250.length co63, v255, gb258) _ ⟨hHeld, (by (with_reducible repeat (first | apply Kd.R_alloc | apply Kd.R_drewN | apply Kd.R_drew)); exact Kd.R_mono HO248.out (fun _ hk => ⟨hk.1.2, hk.2⟩)), (by (with_reducible repeat (first | apply Kd.R_alloc | apply Kd.R_drewN | apply Kd.R_drew)); exact Kd.R_mono HO252.out (fun _ hk => ⟨hk.1.2, hk.2⟩)), (by (with_reducible repeat (first | apply Kd.R_alloc | apply Kd.R_drewN | apply Kd.R_drew)); exact Kd.R_mono HO256.out (fun _ hk => ⟨hk.1.2, hk.2⟩)), (pk BK241.out), (pk BK242.out), (pk BK258.out), GW258.out, GE258.out, NB241_258.out, NB258_241.out, NB242_258.out, NB258_242.out, (bks HB.out)⟩)
            · skip
              refine box_step ?hg (N := 6) ?hd (cs := #[.int .i64 0, .slice none 0 0]) (t := 24) ?hr ?_; (case hd => rfl); (case hg => rfl); (case hr => first | (go_simp; done) | (go_simp; rfl))
              intro gb258 hg w62 hbox hb
              have n0_ := Aside0.mk (Kd.R_below (rk HO248.out) hb)
              have n1_ := Aside0.mk (Kd.R_below (rk HO252.out) hb)
              have n2_ := Aside0.mk (blk_below (pk BK241.out) hb)
              have n3_ := Aside0.mk (blk_below (pk BK242.out) hb)
              have n4_ := Aside0.mk (below_step (bks HB.out) hb)
              have n5_ := Aside0.mk (hbox)
              have n6_ := Aside0.mk ((by rw [hg]; exact (below_size (bks HB.out)) : w.heap.size ≤ gb258))
              have n7_ := Aside0.mk ((by rw [hg]; exact (below_size (bks HB.out)) : w.heap.size ≤ gb258))
              have n8_ := Aside0.mk ((by rw [hg]; exact Nat.ne_of_lt (blk_lt (g := gb241) (o := .cells #[.int .i64 a0_0, .slice A0_1 l0_1.length c0_1] 32 (0, 0)) (pk BK241.out)) : gb241 ≠ gb258))
              have n9_ := Aside0.mk ((by rw [hg]; exact Nat.ne_of_gt (blk_lt (g := gb241) (o := .cells #[.int .i64 a0_0, .slice A0_1 l0_1.length c0_1] 32 (0, 0)) (pk BK241.out)) : gb258 ≠ gb241))
              have n10_ := Aside0.mk ((by rw [hg]; exact Nat.ne_of_lt (blk_lt (g := gb242) (o := .cells #[.int .i64 a1_0, .slice A1_1 l1_1.length c1_1] 32 (0, 0)) (pk BK242.out)) : gb242 ≠ gb258))
              have n11_ := Aside0.mk ((by rw [hg]; exact Nat.ne_of_gt (blk_lt (g := gb242) (o := .cells #[.int .i64 a1_0, .slice A1_1 l1_1.length c1_1] 32 (0, 0)) (pk BK242.out)) : gb258 ≠ gb242))
              clear HO248 HO252 BK241 BK242 HB
              have HO248 := n0_
              have HO252 := n1_
              have BK241 := n2_
              have BK242 := n3_
              have HB := n4_
              have BK258 := n5_
              have GW258 := n6_
              have GE258 := n7_
              have NB241_258 := n8_
              have NB258_241 := n9_
              have NB242_258 := n10_
              have NB258_242 := n11_
              clear n0_ n1_ n2_ n3_ n4_ n5_ n6_ n7_ n8_ n9_ n10_ n11_ hb hbox hg
              obtain ⟨Ao63, co63, eo63⟩ := Kd.R_slice HO248.out
              (first | subst eo63 | (injection eo63 with f1_ f2_ f3_; have f4_ := f1_.symm; have f5_ := f3_.symm; clear f1_ f2_ f3_; subst f4_; subst f5_))
              obtain ⟨Ao64, co64, eo64⟩ := Kd.R_slice HO252.out
              (first | subst eo64 | (injection eo64 with f1_ f2_ f3_; have f4_ := f1_.symm; have f5_ := f3_.symm; clear f1_ f2_ f3_; subst f4_; subst f5_))
              refine hK.out _ _ ⟨(blk_cell BK241.out 0).trans rfl, (blk_cell BK241.out 1).trans rfl, (blk_cell BK242.out 0).trans rfl, (blk_cell BK242.out 1).trans rfl⟩ (fun hHeld => ?_)
              clear hK K
              refine norm_ (a' := ?_) ?_ ?_
              rotate_left
              · show Act.put _ (some 6) _ = _
                simp only [Act.put, List.setIfInBounds_toArray, List.set_cons_zero, List.set_cons_succ, i64_w, i32_w]
                rfl
              refine one_ (i := 4) (N := some 32) #[true, true, true, true, true, false, false, false, true, false, false] rfl rfl (one_of HT_.out (by kernel_rfl)) (by decide) (fun K hK => ?_)
              refine goes_ Try.func27 (by kernel_rfl) rfl #[.agg #[.int .i64 t245, .slice Ao63 t246.length co63], .agg #[.int .i64 t249, .slice Ao64 t250.length co64]] (by rfl) rfl rfl (by (try simp only [List.map_toArray, List.map_cons, List.map_nil]); first | done | rfl | (simp only [List.length_drop, List.length_take]; rfl)) ?_
              with_reducible refine (spec_MultiplyRings.calls k t245 _ _ t246 t249 _ _ t250 t253 t254 t257 _ ?side1 ?side2 ?side3 ?side4 A21.out).mono ?_
              (case side1 => repeat (first | exact (Kd.R_reads' HO248.out).2.2 | (with_reducible refine Kd.C_alloc ?_ _) | (with_reducible refine Kd.C_drewN ?_ _) | (with_reducible refine Kd.C_drew ?_)))
              (case side2 => exact (Kd.R_reads' HO248.out).2.1)
              (case side3 => repeat (first | exact (Kd.R_reads' HO252.out).2.2 | (with_reducible refine Kd.C_alloc ?_ _) | (with_reducible refine Kd.C_drewN ?_ _) | (with_reducible refine Kd.C_drew ?_)))
              (case side4 => exact (Kd.R_reads' HO252.out).2.1)
              rintro e w65 ⟨v255, rfl, ho0, hb⟩
              refine ⟨_, rfl, ?_⟩
              have n0_ := Aside0.mk (Kd.R_elder' (rk HO248.out) (Kd.R_base ho0) hb)
              have n1_ := Aside0.mk (Kd.R_elder' (rk HO252.out) (Kd.R_base ho0) hb)
              have n2_ := Aside0.mk (Kd.R_lower (Kd.R_new' (Kd.R_new' ho0 (Kd.R_lt (rk HO248.out))) (Kd.R_lt (rk HO252.out))) (below_size (bks HB.out)))
              have n3_ := Aside0.mk (blk_below (pk BK241.out) hb)
              have n4_ := Aside0.mk (blk_below (pk BK242.out) hb)
              have n5_ := Aside0.mk (blk_below (pk BK258.out) hb)
              have n6_ := Aside0.mk (below_step (bks HB.out) hb)
              clear HO248 HO252 BK241 BK242 BK258 HB
              have HO248 := n0_
              have HO252 := n1_
              have HO256 := n2_
              have BK241 := n3_
              have BK242 := n4_
              have BK258 := n5_
              have HB := n6_
              clear n0_ n1_ n2_ n3_ n4_ n5_ n6_
              (try clear hb)
              (try clear hb2)
              (try clear hk)
              (try clear hi)
              (try clear ho0)
              refine hK.out _ _ ⟨(blk_cell BK241.out 0).trans rfl, (blk_cell BK241.out 1).trans rfl, (blk_cell BK242.out 0).trans rfl, (blk_cell BK242.out 1).trans rfl⟩ (fun hHeld => ?_)
              clear hK K
              refine norm_ (a' := ?_) ?_ ?_
              rotate_left
              · show Act.put _ (some 32) _ = _
                simp only [Act.put, List.setIfInBounds_toArray, List.set_cons_zero, List.set_cons_succ, i64_w, i32_w]
                rfl
              refine pure_ (i := 5) (N := some 27) (v := ?_) (a' := ?_) #[true, true, true, true, true, true, false, false, true, false, false] rfl rfl (any_of HT_.out (by kernel_rfl)) (fun _ _ _ h => h) (Or.inl ⟨by rfl, ?_⟩) ?_ ?_
              rotate_left
              · intro w'
                go_simp
                with_reducible rfl
              rotate_left
              · simp only [Act.put, List.setIfInBounds_toArray, List.set_cons_zero, List.set_cons_succ, i64_w, i32_w]
                rfl
              refine pure_ (i := 6) (N := some 33) (v := ?_) (a' := ?_) #[true, true, true, true, true, true, true, false, true, false, false] rfl rfl (any_of HT_.out (by kernel_rfl)) (fun _ _ _ h => h) (Or.inl ⟨by rfl, ?_⟩) ?_ ?_
              rotate_left
              · intro w'
                go_simp
                with_reducible rfl
              rotate_left
              · simp only [Act.put, List.setIfInBounds_toArray, List.set_cons_zero, List.set_cons_succ, i64_w, i32_w]
                rfl
              refine pure_ (i := 7) (N := some 34) (v := ?_) (a' := ?_) #[true, true, true, true, true, true, true, true, true, false, false] rfl rfl (any_of HT_.out (by kernel_rfl)) (fun _ _ _ h => h) (Or.inl ⟨by rfl, ?_⟩) ?_ ?_
              rotate_left
              · intro w'
                go_simp
                with_reducible rfl
              rotate_left
              · simp only [Act.put, List.setIfInBounds_toArray, List.set_cons_zero, List.set_cons_succ, i64_w, i32_w]
                rfl
              exact norm_ (by simp only [putAll, Act.put, List.setIfInBounds_toArray, List.set_cons_zero, List.set_cons_succ]) (hCont (.slice Ao63 t246.length co63, .slice Ao64 t250.length co64, v255, gb258) _ ⟨hHeld, (by (with_reducible repeat (first | apply Kd.R_alloc | apply Kd.R_drewN | apply Kd.R_drew)); exact Kd.R_mono HO248.out (fun _ hk => ⟨hk.1.2, hk.2⟩)), (by (with_reducible repeat (first | apply Kd.R_alloc | apply Kd.R_drewN | apply Kd.R_drew)); exact Kd.R_mono HO252.out (fun _ hk => ⟨hk.1.2, hk.2⟩)), (by (with_reducible repeat (first | apply Kd.R_alloc | apply Kd.R_drewN | apply Kd.R_drew)); exact Kd.R_mono HO256.out (fun _ hk => ⟨hk.1.2, hk.2⟩)), (pk BK241.out), (pk BK242.out), (pk BK258.out), GW258.out, GE258.out, NB241_258.out, NB258_241.out, NB242_258.out, NB258_242.out, (bks HB.out)⟩)
          · skip
            refine box_step ?hg (N := 6) ?hd (cs := #[.int .i64 0, .slice none 0 0]) (t := 24) ?hr ?_; (case hd => rfl); (case hg => rfl); (case hr => first | (go_simp; done) | (go_simp; rfl))
            intro gb258 hg w61 hbox hb
            have n0_ := Aside0.mk (Kd.R_below (rk HO248.out) hb)
            have n1_ := Aside0.mk (blk_below (pk BK241.out) hb)
            have n2_ := Aside0.mk (blk_below (pk BK242.out) hb)
            have n3_ := Aside0.mk (below_step (bks HB.out) hb)
            have n4_ := Aside0.mk (hbox)
            have n5_ := Aside0.mk ((by rw [hg]; exact (below_size (bks HB.out)) : w.heap.size ≤ gb258))
            have n6_ := Aside0.mk ((by rw [hg]; exact (below_size (bks HB.out)) : w.heap.size ≤ gb258))
            have n7_ := Aside0.mk ((by rw [hg]; exact Nat.ne_of_lt (blk_lt (g := gb241) (o := .cells #[.int .i64 a0_0, .slice A0_1 l0_1.length c0_1] 32 (0, 0)) (pk BK241.out)) : gb241 ≠ gb258))
            have n8_ := Aside0.mk ((by rw [hg]; exact Nat.ne_of_gt (blk_lt (g := gb241) (o := .cells #[.int .i64 a0_0, .slice A0_1 l0_1.length c0_1] 32 (0, 0)) (pk BK241.out)) : gb258 ≠ gb241))
            have n9_ := Aside0.mk ((by rw [hg]; exact Nat.ne_of_lt (blk_lt (g := gb242) (o := .cells #[.int .i64 a1_0, .slice A1_1 l1_1.length c1_1] 32 (0, 0)) (pk BK242.out)) : gb242 ≠ gb258))
            have n10_ := Aside0.mk ((by rw [hg]; exact Nat.ne_of_gt (blk_lt (g := gb242) (o := .cells #[.int .i64 a1_0, .slice A1_1 l1_1.length c1_1] 32 (0, 0)) (pk BK242.out)) : gb258 ≠ gb242))
            clear HO248 BK241 BK242 HB
            have HO248 := n0_
            have BK241 := n1_
            have BK242 := n2_
            have HB := n3_
            have BK258 := n4_
            have GW258 := n5_
            have GE258 := n6_
            have NB241_258 := n7_
            have NB258_241 := n8_
            have NB242_258 := n9_
            have NB258_242 := n10_
            clear n0_ n1_ n2_ n3_ n4_ n5_ n6_ n7_ n8_ n9_ n10_ hb hbox hg
            refine hK.out _ _ ⟨(blk_cell BK241.out 0).trans rfl, (blk_cell BK241.out 1).trans rfl, (blk_cell BK242.out 0).trans rfl, (blk_cell BK242.out 1).trans rfl⟩ (fun hHeld => ?_)
            clear hK K
            refine norm_ (a' := ?_) ?_ ?_
            rotate_left
            · show Act.put _ (some 6) _ = _
              simp only [Act.put, List.setIfInBounds_toArray, List.set_cons_zero, List.set_cons_succ, i64_w, i32_w]
              rfl
            refine one_ (i := 3) (N := some 31) #[true, true, true, true, false, false, false, false, true, false, false] rfl rfl (one_of HT_.out (by kernel_rfl)) (by decide) (fun K hK => ?_)
            refine goes_ Try.func21 (by kernel_rfl) rfl #[.agg #[.int .i64 a1_0, .slice A1_1 l1_1.length c1_1]] (by rfl) rfl rfl (by (try simp only [List.map_toArray, List.map_cons, List.map_nil]); first | done | rfl | (simp only [List.length_drop, List.length_take]; rfl)) ?_
            with_reducible refine (laws_toRing.calls k a1_0 _ _ l1_1 t249 t250 _ ?side1 ?side2 A20.out).mono ?_
            (case side1 => repeat (first | exact (Kd.C_below HR1_1.out HB.out) | (with_reducible refine Kd.C_alloc ?_ _) | (with_reducible refine Kd.C_drewN ?_ _) | (with_reducible refine Kd.C_drew ?_)))
            (case side2 => exact HC1_1.out)
            rintro e w62 ⟨v251, rfl, ho0, hb⟩
            refine ⟨_, rfl, ?_⟩
            have n0_ := Aside0.mk (Kd.R_elder' (rk HO248.out) (Kd.R_base ho0) hb)
            have n1_ := Aside0.mk (Kd.R_lower (Kd.R_new' ho0 (Kd.R_lt (rk HO248.out))) (below_size (bks HB.out)))
            have n2_ := Aside0.mk (blk_below (pk BK241.out) hb)
            have n3_ := Aside0.mk (blk_below (pk BK242.out) hb)
            have n4_ := Aside0.mk (blk_below (pk BK258.out) hb)
            have n5_ := Aside0.mk (below_step (bks HB.out) hb)
            clear HO248 BK241 BK242 BK258 HB
            have HO248 := n0_
            have HO252 := n1_
            have BK241 := n2_
            have BK242 := n3_
            have BK258 := n4_
            have HB := n5_
            clear n0_ n1_ n2_ n3_ n4_ n5_
            (try clear hb)
            (try clear hb2)
            (try clear hk)
            (try clear hi)
            (try clear ho0)
            obtain ⟨Ao63, co63, eo63⟩ := Kd.R_slice HO248.out
            (first | subst eo63 | (injection eo63 with f1_ f2_ f3_; have f4_ := f1_.symm; have f5_ := f3_.symm; clear f1_ f2_ f3_; subst f4_; subst f5_))
            obtain ⟨Ao64, co64, eo64⟩ := Kd.R_slice HO252.out
            (first | subst eo64 | (injection eo64 with f1_ f2_ f3_; have f4_ := f1_.symm; have f5_ := f3_.symm; clear f1_ f2_ f3_; subst f4_; subst f5_))
            refine hK.out _ _ ⟨(blk_cell BK241.out 0).trans rfl, (blk_cell BK241.out 1).trans rfl, (blk_cell BK242.out 0).trans rfl, (blk_cell BK242.out 1).trans rfl⟩ (fun hHeld => ?_)
            clear hK K
            refine norm_ (a' := ?_) ?_ ?_
            rotate_left
            · show Act.put _ (some 31) _ = _
              simp only [Act.put, List.setIfInBounds_toArray, List.set_cons_zero, List.set_cons_succ, i64_w, i32_w]
              rfl
            refine one_ (i := 4) (N := some 32) #[true, true, true, true, true, false, false, false, true, false, false] rfl rfl (one_of HT_.out (by kernel_rfl)) (by decide) (fun K hK => ?_)
            refine goes_ Try.func27 (by kernel_rfl) rfl #[.agg #[.int .i64 t245, .slice Ao63 t246.length co63], .agg #[.int .i64 t249, .slice Ao64 t250.length co64]] (by rfl) rfl rfl (by (try simp only [List.map_toArray, List.map_cons, List.map_nil]); first | done | rfl | (simp only [List.length_drop, List.length_take]; rfl)) ?_
            with_reducible refine (spec_MultiplyRings.calls k t245 _ _ t246 t249 _ _ t250 t253 t254 t257 _ ?side1 ?side2 ?side3 ?side4 A21.out).mono ?_
            (case side1 => repeat (first | exact (Kd.R_reads' HO248.out).2.2 | (with_reducible refine Kd.C_alloc ?_ _) | (with_reducible refine Kd.C_drewN ?_ _) | (with_reducible refine Kd.C_drew ?_)))
            (case side2 => exact (Kd.R_reads' HO248.out).2.1)
            (case side3 => repeat (first | exact (Kd.R_reads' HO252.out).2.2 | (with_reducible refine Kd.C_alloc ?_ _) | (with_reducible refine Kd.C_drewN ?_ _) | (with_reducible refine Kd.C_drew ?_)))
            (case side4 => exact (Kd.R_reads' HO252.out).2.1)
            rintro e w65 ⟨v255, rfl, ho0, hb⟩
            refine ⟨_, rfl, ?_⟩
            have n0_ := Aside0.mk (Kd.R_elder' (rk HO248.out) (Kd.R_base ho0) hb)
            have n1_ := Aside0.mk (Kd.R_elder' (rk HO252.out) (Kd.R_base ho0) hb)
            have n2_ := Aside0.mk (Kd.R_lower (Kd.R_new' (Kd.R_new' ho0 (Kd.R_lt (rk HO248.out))) (Kd.R_lt (rk HO252.out))) (below_size (bks HB.out)))
            have n3_ := Aside0.mk (blk_below (pk BK241.out) hb)
            have n4_ := Aside0.mk (blk_below (pk BK242.out) hb)
            have n5_ := Aside0.mk (blk_below (pk BK258.out) hb)
            have n6_ := Aside0.mk (below_step (bks HB.out) hb)
            clear HO248 HO252 BK241 BK242 BK258 HB
            have HO248 := n0_
            have HO252 := n1_
            have HO256 := n2_
            have BK241 := n3_
            have BK242 := n4_
            have BK258 := n5_
            have HB := n6_
            clear n0_ n1_ n2_ n3_ n4_ n5_ n6_
            (try clear hb)
            (try clear hb2)
            (try clear hk)
            (try clear hi)
            (try clear ho0)
            refine hK.out _ _ ⟨(blk_cell BK241.out 0).trans rfl, (blk_cell BK241.out 1).trans rfl, (blk_cell BK242.out 0).trans rfl, (blk_cell BK242.out 1).trans rfl⟩ (fun hHeld => ?_)
            clear hK K
            refine norm_ (a' := ?_) ?_ ?_
            rotate_left
            · show Act.put _ (some 32) _ = _
              simp only [Act.put, List.setIfInBounds_toArray, List.set_cons_zero, List.set_cons_succ, i64_w, i32_w]
              rfl
            refine pure_ (i := 5) (N := some 27) (v := ?_) (a' := ?_) #[true, true, true, true, true, true, false, false, true, false, false] rfl rfl (any_of HT_.out (by kernel_rfl)) (fun _ _ _ h => h) (Or.inl ⟨by rfl, ?_⟩) ?_ ?_
            rotate_left
            · intro w'
              go_simp
              with_reducible rfl
            rotate_left
            · simp only [Act.put, List.setIfInBounds_toArray, List.set_cons_zero, List.set_cons_succ, i64_w, i32_w]
              rfl
            refine pure_ (i := 6) (N := some 33) (v := ?_) (a' := ?_) #[true, true, true, true, true, true, true, false, true, false, false] rfl rfl (any_of HT_.out (by kernel_rfl)) (fun _ _ _ h => h) (Or.inl ⟨by rfl, ?_⟩) ?_ ?_
            rotate_left
            · intro w'
              go_simp
              with_reducible rfl
            rotate_left
            · simp only [Act.put, List.setIfInBounds_toArray, List.set_cons_zero, List.set_cons_succ, i64_w, i32_w]
              rfl
            refine pure_ (i := 7) (N := some 34) (v := ?_) (a' := ?_) #[true, true, true, true, true, true, true, true, true, false, false] rfl rfl (any_of HT_.out (by kernel_rfl)) (fun _ _ _ h => h) (Or.inl ⟨by rfl, ?_⟩) ?_ ?_
            rotate_left
            · intro w'
              go_simp
              with_reducible rfl
            rotate_left
            · simp only [Act.put, List.setIfInBounds_toArray, List.set_cons_zero, List.set_cons_succ, i64_w, i32_w]
              rfl
            exact norm_ (by simp only [putAll, Act.put, List.setIfInBounds_toArray, List.set_cons_zero, List.set_cons_succ]) (hCont (.slice Ao63 t246.length co63, .slice Ao64 t250.length co64, v255, gb258) _ ⟨hHeld, (by (with_reducible repeat (first | apply Kd.R_alloc | apply Kd.R_drewN | apply Kd.R_drew)); exact Kd.R_mono HO248.out (fun _ hk => ⟨hk.1.2, hk.2⟩)), (by (with_reducible repeat (first | apply Kd.R_alloc | apply Kd.R_drewN | apply Kd.R_drew)); exact Kd.R_mono HO252.out (fun _ hk => ⟨hk.1.2, hk.2⟩)), (by (with_reducible repeat (first | apply Kd.R_alloc | apply Kd.R_drewN | apply Kd.R_drew)); exact Kd.R_mono HO256.out (fun _ hk => ⟨hk.1.2, hk.2⟩)), (pk BK241.out), (pk BK242.out), (pk BK258.out), GW258.out, GE258.out, NB241_258.out, NB258_241.out, NB242_258.out, NB258_242.out, (bks HB.out)⟩)
        · skip
          refine box_step ?hg (N := 6) ?hd (cs := #[.int .i64 0, .slice none 0 0]) (t := 24) ?hr ?_; (case hd => rfl); (case hg => rfl); (case hr => first | (go_simp; done) | (go_simp; rfl))
          intro gb258 hg w60 hbox hb
          have n0_ := Aside0.mk (blk_below (pk BK241.out) hb)
          have n1_ := Aside0.mk (blk_below (pk BK242.out) hb)
          have n2_ := Aside0.mk (below_step (bks HB.out) hb)
          have n3_ := Aside0.mk (hbox)
          have n4_ := Aside0.mk ((by rw [hg]; exact (below_size (bks HB.out)) : w.heap.size ≤ gb258))
          have n5_ := Aside0.mk ((by rw [hg]; exact (below_size (bks HB.out)) : w.heap.size ≤ gb258))
          have n6_ := Aside0.mk ((by rw [hg]; exact Nat.ne_of_lt (blk_lt (g := gb241) (o := .cells #[.int .i64 a0_0, .slice A0_1 l0_1.length c0_1] 32 (0, 0)) (pk BK241.out)) : gb241 ≠ gb258))
          have n7_ := Aside0.mk ((by rw [hg]; exact Nat.ne_of_gt (blk_lt (g := gb241) (o := .cells #[.int .i64 a0_0, .slice A0_1 l0_1.length c0_1] 32 (0, 0)) (pk BK241.out)) : gb258 ≠ gb241))
          have n8_ := Aside0.mk ((by rw [hg]; exact Nat.ne_of_lt (blk_lt (g := gb242) (o := .cells #[.int .i64 a1_0, .slice A1_1 l1_1.length c1_1] 32 (0, 0)) (pk BK242.out)) : gb242 ≠ gb258))
          have n9_ := Aside0.mk ((by rw [hg]; exact Nat.ne_of_gt (blk_lt (g := gb242) (o := .cells #[.int .i64 a1_0, .slice A1_1 l1_1.length c1_1] 32 (0, 0)) (pk BK242.out)) : gb258 ≠ gb242))
          clear BK241 BK242 HB
          have BK241 := n0_
          have BK242 := n1_
          have HB := n2_
          have BK258 := n3_
          have GW258 := n4_
          have GE258 := n5_
          have NB241_258 := n6_
          have NB258_241 := n7_
          have NB242_258 := n8_
          have NB258_242 := n9_
          clear n0_ n1_ n2_ n3_ n4_ n5_ n6_ n7_ n8_ n9_ hb hbox hg
          refine hK.out _ _ ⟨(blk_cell BK241.out 0).trans rfl, (blk_cell BK241.out 1).trans rfl, (blk_cell BK242.out 0).trans rfl, (blk_cell BK242.out 1).trans rfl⟩ (fun hHeld => ?_)
          clear hK K
          refine norm_ (a' := ?_) ?_ ?_
          rotate_left
          · show Act.put _ (some 6) _ = _
            simp only [Act.put, List.setIfInBounds_toArray, List.set_cons_zero, List.set_cons_succ, i64_w, i32_w]
            rfl
          refine one_ (i := 1) (N := some 29) #[true, true, true, false, false, false, false, false, true, false, false] rfl rfl (one_of HT_.out (by kernel_rfl)) (by decide) (fun K hK => ?_)
          refine goes_ Try.func21 (by kernel_rfl) rfl #[.agg #[.int .i64 a0_0, .slice A0_1 l0_1.length c0_1]] (by rfl) rfl rfl (by (try simp only [List.map_toArray, List.map_cons, List.map_nil]); first | done | rfl | (simp only [List.length_drop, List.length_take]; rfl)) ?_
          with_reducible refine (laws_toRing.calls k a0_0 _ _ l0_1 t245 t246 _ ?side1 ?side2 A19.out).mono ?_
          (case side1 => repeat (first | exact (Kd.C_below HR0_1.out HB.out) | (with_reducible refine Kd.C_alloc ?_ _) | (with_reducible refine Kd.C_drewN ?_ _) | (with_reducible refine Kd.C_drew ?_)))
          (case side2 => exact HC0_1.out)
          rintro e w61 ⟨v247, rfl, ho0, hb⟩
          refine ⟨_, rfl, ?_⟩
          have n0_ := Aside0.mk (Kd.R_lower ho0 (below_size (bks HB.out)))
          have n1_ := Aside0.mk (blk_below (pk BK241.out) hb)
          have n2_ := Aside0.mk (blk_below (pk BK242.out) hb)
          have n3_ := Aside0.mk (blk_below (pk BK258.out) hb)
          have n4_ := Aside0.mk (below_step (bks HB.out) hb)
          clear BK241 BK242 BK258 HB
          have HO248 := n0_
          have BK241 := n1_
          have BK242 := n2_
          have BK258 := n3_
          have HB := n4_
          clear n0_ n1_ n2_ n3_ n4_
          (try clear hb)
          (try clear hb2)
          (try clear hk)
          (try clear hi)
          (try clear ho0)
          refine hK.out _ _ ⟨(blk_cell BK241.out 0).trans rfl, (blk_cell BK241.out 1).trans rfl, (blk_cell BK242.out 0).trans rfl, (blk_cell BK242.out 1).trans rfl⟩ (fun hHeld => ?_)
          clear hK K
          refine norm_ (a' := ?_) ?_ ?_
          rotate_left
          · show Act.put _ (some 29) _ = _
            simp only [Act.put, List.setIfInBounds_toArray, List.set_cons_zero, List.set_cons_succ, i64_w, i32_w]
            rfl
          refine one_ (i := 3) (N := some 31) #[true, true, true, true, false, false, false, false, true, false, false] rfl rfl (one_of HT_.out (by kernel_rfl)) (by decide) (fun K hK => ?_)
          refine goes_ Try.func21 (by kernel_rfl) rfl #[.agg #[.int .i64 a1_0, .slice A1_1 l1_1.length c1_1]] (by rfl) rfl rfl (by (try simp only [List.map_toArray, List.map_cons, List.map_nil]); first | done | rfl | (simp only [List.length_drop, List.length_take]; rfl)) ?_
          with_reducible refine (laws_toRing.calls k a1_0 _ _ l1_1 t249 t250 _ ?side1 ?side2 A20.out).mono ?_
          (case side1 => repeat (first | exact (Kd.C_below HR1_1.out HB.out) | (with_reducible refine Kd.C_alloc ?_ _) | (with_reducible refine Kd.C_drewN ?_ _) | (with_reducible refine Kd.C_drew ?_)))
          (case side2 => exact HC1_1.out)
          rintro e w62 ⟨v251, rfl, ho0, hb⟩
          refine ⟨_, rfl, ?_⟩
          have n0_ := Aside0.mk (Kd.R_elder' (rk HO248.out) (Kd.R_base ho0) hb)
          have n1_ := Aside0.mk (Kd.R_lower (Kd.R_new' ho0 (Kd.R_lt (rk HO248.out))) (below_size (bks HB.out)))
          have n2_ := Aside0.mk (blk_below (pk BK241.out) hb)
          have n3_ := Aside0.mk (blk_below (pk BK242.out) hb)
          have n4_ := Aside0.mk (blk_below (pk BK258.out) hb)
          have n5_ := Aside0.mk (below_step (bks HB.out) hb)
          clear HO248 BK241 BK242 BK258 HB
          have HO248 := n0_
          have HO252 := n1_
          have BK241 := n2_
          have BK242 := n3_
          have BK258 := n4_
          have HB := n5_
          clear n0_ n1_ n2_ n3_ n4_ n5_
          (try clear hb)
          (try clear hb2)
          (try clear hk)
          (try clear hi)
          (try clear ho0)
          obtain ⟨Ao63, co63, eo63⟩ := Kd.R_slice HO248.out
          (first | subst eo63 | (injection eo63 with f1_ f2_ f3_; have f4_ := f1_.symm; have f5_ := f3_.symm; clear f1_ f2_ f3_; subst f4_; subst f5_))
          obtain ⟨Ao64, co64, eo64⟩ := Kd.R_slice HO252.out
          (first | subst eo64 | (injection eo64 with f1_ f2_ f3_; have f4_ := f1_.symm; have f5_ := f3_.symm; clear f1_ f2_ f3_; subst f4_; subst f5_))
          refine hK.out _ _ ⟨(blk_cell BK241.out 0).trans rfl, (blk_cell BK241.out 1).trans rfl, (blk_cell BK242.out 0).trans rfl, (blk_cell BK242.out 1).trans rfl⟩ (fun hHeld => ?_)
          clear hK K
          refine norm_ (a' := ?_) ?_ ?_
          rotate_left
          · show Act.put _ (some 31) _ = _
            simp only [Act.put, List.setIfInBounds_toArray, List.set_cons_zero, List.set_cons_succ, i64_w, i32_w]
            rfl
          refine one_ (i := 4) (N := some 32) #[true, true, true, true, true, false, false, false, true, false, false] rfl rfl (one_of HT_.out (by kernel_rfl)) (by decide) (fun K hK => ?_)
          refine goes_ Try.func27 (by kernel_rfl) rfl #[.agg #[.int .i64 t245, .slice Ao63 t246.length co63], .agg #[.int .i64 t249, .slice Ao64 t250.length co64]] (by rfl) rfl rfl (by (try simp only [List.map_toArray, List.map_cons, List.map_nil]); first | done | rfl | (simp only [List.length_drop, List.length_take]; rfl)) ?_
          with_reducible refine (spec_MultiplyRings.calls k t245 _ _ t246 t249 _ _ t250 t253 t254 t257 _ ?side1 ?side2 ?side3 ?side4 A21.out).mono ?_
          (case side1 => repeat (first | exact (Kd.R_reads' HO248.out).2.2 | (with_reducible refine Kd.C_alloc ?_ _) | (with_reducible refine Kd.C_drewN ?_ _) | (with_reducible refine Kd.C_drew ?_)))
          (case side2 => exact (Kd.R_reads' HO248.out).2.1)
          (case side3 => repeat (first | exact (Kd.R_reads' HO252.out).2.2 | (with_reducible refine Kd.C_alloc ?_ _) | (with_reducible refine Kd.C_drewN ?_ _) | (with_reducible refine Kd.C_drew ?_)))
          (case side4 => exact (Kd.R_reads' HO252.out).2.1)
          rintro e w65 ⟨v255, rfl, ho0, hb⟩
          refine ⟨_, rfl, ?_⟩
          have n0_ := Aside0.mk (Kd.R_elder' (rk HO248.out) (Kd.R_base ho0) hb)
          have n1_ := Aside0.mk (Kd.R_elder' (rk HO252.out) (Kd.R_base ho0) hb)
          have n2_ := Aside0.mk (Kd.R_lower (Kd.R_new' (Kd.R_new' ho0 (Kd.R_lt (rk HO248.out))) (Kd.R_lt (rk HO252.out))) (below_size (bks HB.out)))
          have n3_ := Aside0.mk (blk_below (pk BK241.out) hb)
          have n4_ := Aside0.mk (blk_below (pk BK242.out) hb)
          have n5_ := Aside0.mk (blk_below (pk BK258.out) hb)
          have n6_ := Aside0.mk (below_step (bks HB.out) hb)
          clear HO248 HO252 BK241 BK242 BK258 HB
          have HO248 := n0_
          have HO252 := n1_
          have HO256 := n2_
          have BK241 := n3_
          have BK242 := n4_
          have BK258 := n5_
          have HB := n6_
          clear n0_ n1_ n2_ n3_ n4_ n5_ n6_
          (try clear hb)
          (try clear hb2)
          (try clear hk)
          (try clear hi)
          (try clear ho0)
          refine hK.out _ _ ⟨(blk_cell BK241.out 0).trans rfl, (blk_cell BK241.out 1).trans rfl, (blk_cell BK242.out 0).trans rfl, (blk_cell BK242.out 1).trans rfl⟩ (fun hHeld => ?_)
          clear hK K
          refine norm_ (a' := ?_) ?_ ?_
          rotate_left
          · show Act.put _ (some 32) _ = _
            simp only [Act.put, List.setIfInBounds_toArray, List.set_cons_zero, List.set_cons_succ, i64_w, i32_w]
            rfl
          refine pure_ (i := 5) (N := some 27) (v := ?_) (a' := ?_) #[true, true, true, true, true, true, false, false, true, false, false] rfl rfl (any_of HT_.out (by kernel_rfl)) (fun _ _ _ h => h) (Or.inl ⟨by rfl, ?_⟩) ?_ ?_
          rotate_left
          · intro w'
            go_simp
            with_reducible rfl
          rotate_left
          · simp only [Act.put, List.setIfInBounds_toArray, List.set_cons_zero, List.set_cons_succ, i64_w, i32_w]
            rfl
          refine pure_ (i := 6) (N := some 33) (v := ?_) (a' := ?_) #[true, true, true, true, true, true, true, false, true, false, false] rfl rfl (any_of HT_.out (by kernel_rfl)) (fun _ _ _ h => h) (Or.inl ⟨by rfl, ?_⟩) ?_ ?_
          rotate_left
          · intro w'
            go_simp
            with_reducible rfl
          rotate_left
          · simp only [Act.put, List.setIfInBounds_toArray, List.set_cons_zero, List.set_cons_succ, i64_w, i32_w]
            rfl
          refine pure_ (i := 7) (N := some 34) (v := ?_) (a' := ?_) #[true, true, true, true, true, true, true, true, true, false, false] rfl rfl (any_of HT_.out (by kernel_rfl)) (fun _ _ _ h => h) (Or.inl ⟨by rfl, ?_⟩) ?_ ?_
          rotate_left
          · intro w'
            go_simp
            with_reducible rfl
          rotate_left
          · simp only [Act.put, List.setIfInBounds_toArray, List.set_cons_zero, List.set_cons_succ, i64_w, i32_w]
            rfl
          exact norm_ (by simp only [putAll, Act.put, List.setIfInBounds_toArray, List.set_cons_zero, List.set_cons_succ]) (hCont (.slice Ao63 t246.length co63, .slice Ao64 t250.length co64, v255, gb258) _ ⟨hHeld, (by (with_reducible repeat (first | apply Kd.R_alloc | apply Kd.R_drewN | apply Kd.R_drew)); exact Kd.R_mono HO248.out (fun _ hk => ⟨hk.1.2, hk.2⟩)), (by (with_reducible repeat (first | apply Kd.R_alloc | apply Kd.R_drewN | apply Kd.R_drew)); exact Kd.R_mono HO252.out (fun _ hk => ⟨hk.1.2, hk.2⟩)), (by (with_reducible repeat (first | apply Kd.R_alloc | apply Kd.R_drewN | apply Kd.R_drew)); exact Kd.R_mono HO256.out (fun _ hk => ⟨hk.1.2, hk.2⟩)), (pk BK241.out), (pk BK242.out), (pk BK258.out), GW258.out, GE258.out, NB241_258.out, NB258_241.out, NB242_258.out, NB258_242.out, (bks HB.out)⟩)
      rintro ⟨v247, v251, v255, gb258⟩ w66 ⟨hS_, h0_, h1_, h2_, h3_, h4_, h5_, h6_, h7_, h8_, h9_, h10_, h11_, h12_⟩
      have n0_ : Aside0 (Kd.R (Kd.int .i64) 2 w66 w.heap.size (fun k_ => some k_ ≠ (v251 : Value).ownBlock ∧ some k_ ≠ (v255 : Value).ownBlock) v247 t246) := ⟨h0_⟩
      have n1_ : Aside0 (Kd.R (Kd.int .i64) 2 w66 w.heap.size (fun k_ => some k_ ≠ (v247 : Value).ownBlock ∧ some k_ ≠ (v255 : Value).ownBlock) v251 t250) := ⟨h1_⟩
      have n2_ : Aside0 (Kd.R (Kd.int .i64) 2 w66 w.heap.size (fun k_ => some k_ ≠ (v247 : Value).ownBlock ∧ some k_ ≠ (v251 : Value).ownBlock) v255 t254) := ⟨h2_⟩
      have n3_ : Aside0 (w66.heap[gb241]? = some (.cells #[.int .i64 a0_0, .slice A0_1 l0_1.length c0_1] 32 (0, 0))) := ⟨h3_⟩
      have n4_ : Aside0 (w66.heap[gb242]? = some (.cells #[.int .i64 a1_0, .slice A1_1 l1_1.length c1_1] 32 (0, 0))) := ⟨h4_⟩
      have n5_ : Aside0 (w66.heap[gb258]? = some (.cells #[.int .i64 0, .slice none 0 0] 24 (0, 0))) := ⟨h5_⟩
      have n6_ : Aside0 (w.heap.size ≤ gb258) := ⟨h6_⟩
      have n7_ : Aside0 (w.heap.size ≤ gb258) := ⟨h7_⟩
      have n8_ : Aside0 (gb241 ≠ gb258) := ⟨h8_⟩
      have n9_ : Aside0 (gb258 ≠ gb241) := ⟨h9_⟩
      have n10_ : Aside0 (gb242 ≠ gb258) := ⟨h10_⟩
      have n11_ : Aside0 (gb258 ≠ gb242) := ⟨h11_⟩
      have n12_ : Aside0 (Below w.heap.size w w66) := ⟨h12_⟩
      clear BK241 BK242 HB h0_ h1_ h2_ h3_ h4_ h5_ h6_ h7_ h8_ h9_ h10_ h11_ h12_
      have HO248 := n0_
      have HO252 := n1_
      have HO256 := n2_
      have BK241 := n3_
      have BK242 := n4_
      have BK258 := n5_
      have GW258 := n6_
      have GE258 := n7_
      have NB241_258 := n8_
      have NB258_241 := n9_
      have NB242_258 := n10_
      have NB258_242 := n11_
      have HB := n12_
      clear n0_ n1_ n2_ n3_ n4_ n5_ n6_ n7_ n8_ n9_ n10_ n11_ n12_
      have hHeld : w66.cell? ⟨gb241, 0, none⟩ = some (.int .i64 a0_0) ∧ w66.cell? ⟨gb241, 1, none⟩ = some (.slice A0_1 l0_1.length c0_1) ∧ w66.cell? ⟨gb242, 0, none⟩ = some (.int .i64 a1_0) ∧ w66.cell? ⟨gb242, 1, none⟩ = some (.slice A1_1 l1_1.length c1_1) := hS_
      obtain ⟨Ao68, co68, eo68⟩ := Kd.R_slice HO256.out
      (first | subst eo68 | (injection eo68 with f1_ f2_ f3_; have f4_ := f1_.symm; have f5_ := f3_.symm; clear f1_ f2_ f3_; subst f4_; subst f5_))
      refine norm_ (a' := ?_) ?_ ?_
      rotate_left
      · simp only [putAll, Act.put, List.setIfInBounds_toArray, List.set_cons_zero, List.set_cons_succ]
        rfl
      refine one_ (i := 9) (N := none) #[true, true, true, true, true, true, true, true, true, true, false] rfl rfl (one_of HT_.out (by kernel_rfl)) (by decide) (fun K hK => ?_)
      have hs67 : w66.cell? ⟨gb258, 0, none⟩ = some (.int .i64 0) := (blk_cell BK258.out 0).trans rfl
      have hfs67 := blk_frozen BK258.out 0
      have hns67_0 := NB241_258.out
      have hns67_1 := NB242_258.out
      have hms67_0 := NB258_241.out
      have hms67_1 := NB258_242.out
      have hs69 : w66.cell? ⟨gb258, 1, none⟩ = some (.slice none 0 0) := (blk_cell BK258.out 1).trans rfl
      have hfs69 := blk_frozen BK258.out 1
      have hns69_0 := NB241_258.out
      have hns69_1 := NB242_258.out
      have hms69_0 := NB258_241.out
      have hms69_1 := NB258_242.out
      refine skip_ (w1 := ?_) (by rfl) rfl ?_ ?_
      rotate_left
      · go_simp
        rfl
      refine hK.out _ _ ⟨((cell_far (p := ⟨gb258, _, none⟩) NB241_258.out _).trans (((cell_far (p := ⟨gb258, _, none⟩) NB241_258.out _).trans (hHeld.1)))), ((cell_far (p := ⟨gb258, _, none⟩) NB241_258.out _).trans (((cell_far (p := ⟨gb258, _, none⟩) NB241_258.out _).trans (hHeld.2.1)))), ((cell_far (p := ⟨gb258, _, none⟩) NB242_258.out _).trans (((cell_far (p := ⟨gb258, _, none⟩) NB242_258.out _).trans (hHeld.2.2.1)))), ((cell_far (p := ⟨gb258, _, none⟩) NB242_258.out _).trans (((cell_far (p := ⟨gb258, _, none⟩) NB242_258.out _).trans (hHeld.2.2.2))))⟩ (fun hHeld => ?_)
      clear hK K
      refine pure_ (i := 10) (N := some 7) (v := ?_) (a' := ?_) #[true, true, true, true, true, true, true, true, true, true, true] rfl rfl (any_of HT_.out (by kernel_rfl)) (fun _ _ _ h => h) (Or.inl ⟨by rfl, ?_⟩) ?_ ?_
      rotate_left
      · intro w'
        go_simp
        with_reducible rfl
      rotate_left
      · simp only [Act.put, List.setIfInBounds_toArray, List.set_cons_zero, List.set_cons_succ, i64_w, i32_w]
        rfl
      refine done_ (done_of HT_.out (by kernel_rfl)) ?_
      have hnb70 := NB241_258.out
      have hnc70 := NB258_241.out
      have hcz71_0 : w66.cell? ⟨gb241, 0, none⟩ = some (.int .i64 a0_0) := (blk_cell BK241.out 0).trans rfl
      have hcz71_1 : w66.cell? ⟨gb241, 1, none⟩ = some (.slice A0_1 l0_1.length c0_1) := (blk_cell BK241.out 1).trans rfl
      have hfz71_0 := blk_frozen BK241.out 0
      have hfz71_1 := blk_frozen BK241.out 1
      try go_wp2_with (first | ((with_reducible refine gate_callee (f := 21) rfl ?_); refine goesL_ (some 36) rfl rfl Try.func21 (by kernel_rfl) rfl #[.agg #[.int .i64 a0_0, .slice A0_1 l0_1.length c0_1]] rfl (by (try simp only [List.map_toArray, List.map_cons, List.map_nil]); first | done | rfl | (simp only [List.length_drop, List.length_take]; rfl)) ?_; (with_reducible refine (laws_toRing.calls k a0_0 _ _ l0_1 t259 t260 _ ?side1 ?side2 A22.out).mono ?_); (case side1 => exact Kd.C_below HR0_1.out (bks HB.out)); (case side2 => exact HC0_1.out); rintro e w72 ⟨v261, rfl, ho0, hb⟩; refine ⟨_, rfl, ?_⟩; have n0_ := Aside0.mk (Kd.R_elder' (rk (Kd.R_mono (Kd.R_far (p := ⟨gb258, 1, none⟩) (Kd.R_far (p := ⟨gb258, 0, none⟩) (Kd.R_types HO248.out BK258.out (by decide)) (fun _ hk => hk.2) (.int .i64 t253)) (fun _ hk => hk.2) (.slice Ao68 t254.length co68)) (fun _ h_ => h_.1))) (Kd.R_base ho0) hb); have n1_ := Aside0.mk (Kd.R_elder' (rk (Kd.R_mono (Kd.R_far (p := ⟨gb258, 1, none⟩) (Kd.R_far (p := ⟨gb258, 0, none⟩) (Kd.R_types HO252.out BK258.out (by decide)) (fun _ hk => hk.2) (.int .i64 t253)) (fun _ hk => hk.2) (.slice Ao68 t254.length co68)) (fun _ h_ => h_.1))) (Kd.R_base ho0) hb); have n2_ := Aside0.mk (Kd.R_elder' (rk (Kd.R_mono (Kd.R_far (p := ⟨gb258, 1, none⟩) (Kd.R_far (p := ⟨gb258, 0, none⟩) (Kd.R_types HO256.out BK258.out (by decide)) (fun _ hk => hk.2) (.int .i64 t253)) (fun _ hk => hk.2) (.slice Ao68 t254.length co68)) (fun _ h_ => h_.1))) (Kd.R_base ho0) hb); have n3_ := Aside0.mk (Kd.R_lower (Kd.R_new' (Kd.R_new' (Kd.R_new' ho0 (Kd.R_lt (rk (Kd.R_mono (Kd.R_far (p := ⟨gb258, 1, none⟩) (Kd.R_far (p := ⟨gb258, 0, none⟩) (Kd.R_types HO248.out BK258.out (by decide)) (fun _ hk => hk.2) (.int .i64 t253)) (fun _ hk => hk.2) (.slice Ao68 t254.length co68)) (fun _ h_ => h_.1))))) (Kd.R_lt (rk (Kd.R_mono (Kd.R_far (p := ⟨gb258, 1, none⟩) (Kd.R_far (p := ⟨gb258, 0, none⟩) (Kd.R_types HO252.out BK258.out (by decide)) (fun _ hk => hk.2) (.int .i64 t253)) (fun _ hk => hk.2) (.slice Ao68 t254.length co68)) (fun _ h_ => h_.1))))) (Kd.R_lt (rk (Kd.R_mono (Kd.R_far (p := ⟨gb258, 1, none⟩) (Kd.R_far (p := ⟨gb258, 0, none⟩) (Kd.R_types HO256.out BK258.out (by decide)) (fun _ hk => hk.2) (.int .i64 t253)) (fun _ hk => hk.2) (.slice Ao68 t254.length co68)) (fun _ h_ => h_.1))))) (below_size (bks HB.out))); have n4_ := Aside0.mk (blk_below (g := gb241) (o := .cells #[.int .i64 a0_0, .slice A0_1 l0_1.length c0_1] 32 (0, 0)) (by (with_reducible repeat (first | refine blk_drewN ?_ _ | refine blk_drew ?_ | refine blk_alloc ?_ _)); refine blk_far ?_ NB241_258.out _; (with_reducible repeat (first | refine blk_drewN ?_ _ | refine blk_drew ?_ | refine blk_alloc ?_ _)); refine blk_far ?_ NB241_258.out _; (with_reducible repeat (first | refine blk_drewN ?_ _ | refine blk_drew ?_ | refine blk_alloc ?_ _)); exact BK241.out) hb); have n5_ := Aside0.mk (blk_below (g := gb242) (o := .cells #[.int .i64 a1_0, .slice A1_1 l1_1.length c1_1] 32 (0, 0)) (by (with_reducible repeat (first | refine blk_drewN ?_ _ | refine blk_drew ?_ | refine blk_alloc ?_ _)); refine blk_far ?_ NB242_258.out _; (with_reducible repeat (first | refine blk_drewN ?_ _ | refine blk_drew ?_ | refine blk_alloc ?_ _)); refine blk_far ?_ NB242_258.out _; (with_reducible repeat (first | refine blk_drewN ?_ _ | refine blk_drew ?_ | refine blk_alloc ?_ _)); exact BK242.out) hb); have n6_ := Aside0.mk (blk_below (g := gb258) (o := .cells #[.int .i64 t253, .slice Ao68 t254.length co68] 24 (0, 0)) (by (with_reducible repeat (first | refine blk_drewN ?_ _ | refine blk_drew ?_ | refine blk_alloc ?_ _)); refine blk_put (cs := #[.int .i64 t253, .slice none 0 0]) ?_ 1 _ rfl; (with_reducible repeat (first | refine blk_drewN ?_ _ | refine blk_drew ?_ | refine blk_alloc ?_ _)); refine blk_put (cs := #[.int .i64 0, .slice none 0 0]) ?_ 0 _ rfl; (with_reducible repeat (first | refine blk_drewN ?_ _ | refine blk_drew ?_ | refine blk_alloc ?_ _)); exact BK258.out) hb); have n7_ := Aside0.mk (below_step (bks HB.out) hb); clear HO248; clear HO252; clear HO256; clear BK241; clear BK242; clear BK258; clear HB; have HO248 := n0_; have HO252 := n1_; have HO256 := n2_; have HO262 := n3_; have BK241 := n4_; have BK242 := n5_; have BK258 := n6_; have HB := n7_; clear n0_ n1_ n2_ n3_ n4_ n5_ n6_ n7_; (try clear hb); (try clear hb2); (try clear hk); (try clear hi); (try clear ho0)) | ((with_reducible refine gate_dst (N := 8) rfl ?_); refine box_event ?hg (N := 8) ?hd (cs := #[.int .i64 0, .slice none 0 0]) (t := 24) ?hr ?_; (case hd => rfl); (case hg => rfl); (case hr => first | (go_simp; done) | (go_simp; rfl)); intro gb263 hg w73 hbox hb; have n0_ := Aside0.mk (Kd.R_below (rk HO248.out) hb); have n1_ := Aside0.mk (Kd.R_below (rk HO252.out) hb); have n2_ := Aside0.mk (Kd.R_below (rk HO256.out) hb); have n3_ := Aside0.mk (Kd.R_below (rk HO262.out) hb); have n4_ := Aside0.mk (blk_below (pk BK241.out) hb); have n5_ := Aside0.mk (blk_below (pk BK242.out) hb); have n6_ := Aside0.mk (blk_below (pk BK258.out) hb); have n7_ := Aside0.mk (below_step (bks HB.out) hb); have n8_ := Aside0.mk (hbox); have n9_ := Aside0.mk ((by rw [hg]; exact (below_size (bks HB.out)) : w.heap.size ≤ gb263)); have n10_ := Aside0.mk ((by rw [hg]; exact (below_size (bks HB.out)) : w.heap.size ≤ gb263)); have n11_ := Aside0.mk ((by rw [hg]; exact Nat.ne_of_lt (blk_lt (g := gb241) (o := .cells #[.int .i64 a0_0, .slice A0_1 l0_1.length c0_1] 32 (0, 0)) (pk BK241.out)) : gb241 ≠ gb263)); have n12_ := Aside0.mk ((by rw [hg]; exact Nat.ne_of_gt (blk_lt (g := gb241) (o := .cells #[.int .i64 a0_0, .slice A0_1 l0_1.length c0_1] 32 (0, 0)) (pk BK241.out)) : gb263 ≠ gb241)); have n13_ := Aside0.mk ((by rw [hg]; exact Nat.ne_of_lt (blk_lt (g := gb242) (o := .cells #[.int .i64 a1_0, .slice A1_1 l1_1.length c1_1] 32 (0, 0)) (pk BK242.out)) : gb242 ≠ gb263)); have n14_ := Aside0.mk ((by rw [hg]; exact Nat.ne_of_gt (blk_lt (g := gb242) (o := .cells #[.int .i64 a1_0, .slice A1_1 l1_1.length c1_1] 32 (0, 0)) (pk BK242.out)) : gb263 ≠ gb242)); have n15_ := Aside0.mk ((by rw [hg]; exact Nat.ne_of_lt (blk_lt (g := gb258) (o := .cells #[.int .i64 t253, .slice Ao68 t254.length co68] 24 (0, 0)) (pk BK258.out)) : gb258 ≠ gb263)); have n16_ := Aside0.mk ((by rw [hg]; exact Nat.ne_of_gt (blk_lt (g := gb258) (o := .cells #[.int .i64 t253, .slice Ao68 t254.length co68] 24 (0, 0)) (pk BK258.out)) : gb263 ≠ gb258)); clear HO248; clear HO252; clear HO256; clear HO262; clear BK241; clear BK242; clear BK258; clear HB; have HO248 := n0_; have HO252 := n1_; have HO256 := n2_; have HO262 := n3_; have BK241 := n4_; have BK242 := n5_; have BK258 := n6_; have HB := n7_; have BK263 := n8_; have GW263 := n9_; have GE263 := n10_; have NB241_263 := n11_; have NB263_241 := n12_; have NB242_263 := n13_; have NB263_242 := n14_; have NB258_263 := n15_; have NB263_258 := n16_; clear n0_ n1_ n2_ n3_ n4_ n5_ n6_ n7_ n8_ n9_ n10_ n11_ n12_ n13_ n14_ n15_ n16_; clear hb hbox hg; have hnb74 := NB263_241.out; have hnc74 := NB241_263.out; have hnb75 := NB263_242.out; have hnc75 := NB242_263.out; have hnb76 := NB263_258.out; have hnc76 := NB258_263.out; have hcz77_0 : w73.cell? ⟨gb263, 0, none⟩ = some (.int .i64 0) := (blk_cell BK263.out 0).trans rfl; have hcz77_1 : w73.cell? ⟨gb263, 1, none⟩ = some (.slice none 0 0) := (blk_cell BK263.out 1).trans rfl; have hfz77_0 := blk_frozen BK263.out 0; have hfz77_1 := blk_frozen BK263.out 1; obtain ⟨Ao78, co78, eo78⟩ := Kd.R_slice HO262.out; subst eo78; have hnb79 := NB242_258.out; have hnc79 := NB258_242.out; have hcz80_0 : w73.cell? ⟨gb242, 0, none⟩ = some (.int .i64 a1_0) := (blk_cell BK242.out 0).trans rfl; have hcz80_1 : w73.cell? ⟨gb242, 1, none⟩ = some (.slice A1_1 l1_1.length c1_1) := (blk_cell BK242.out 1).trans rfl; have hfz80_0 := blk_frozen BK242.out 0; have hfz80_1 := blk_frozen BK242.out 1) | ((with_reducible refine gate_callee (f := 21) rfl ?_); refine goesL_ (some 38) rfl rfl Try.func21 (by kernel_rfl) rfl #[.agg #[.int .i64 a1_0, .slice A1_1 l1_1.length c1_1]] rfl (by (try simp only [List.map_toArray, List.map_cons, List.map_nil]); first | done | rfl | (simp only [List.length_drop, List.length_take]; rfl)) ?_; (with_reducible refine (laws_toRing.calls k a1_0 _ _ l1_1 t264 t265 _ ?side1 ?side2 A23.out).mono ?_); (case side1 => exact Kd.C_below HR1_1.out (bks HB.out)); (case side2 => exact HC1_1.out); rintro e w81 ⟨v266, rfl, ho0, hb⟩; refine ⟨_, rfl, ?_⟩; have n0_ := Aside0.mk (Kd.R_elder' (rk (Kd.R_mono (Kd.R_far (p := ⟨gb263, 1, none⟩) (Kd.R_far (p := ⟨gb263, 0, none⟩) (Kd.R_types HO248.out BK263.out (by decide)) (fun _ hk => hk.2) (.int .i64 t259)) (fun _ hk => hk.2) (.slice Ao78 t260.length co78)) (fun _ h_ => h_.1))) (Kd.R_base ho0) hb); have n1_ := Aside0.mk (Kd.R_elder' (rk (Kd.R_mono (Kd.R_far (p := ⟨gb263, 1, none⟩) (Kd.R_far (p := ⟨gb263, 0, none⟩) (Kd.R_types HO252.out BK263.out (by decide)) (fun _ hk => hk.2) (.int .i64 t259)) (fun _ hk => hk.2) (.slice Ao78 t260.length co78)) (fun _ h_ => h_.1))) (Kd.R_base ho0) hb); have n2_ := Aside0.mk (Kd.R_elder' (rk (Kd.R_mono (Kd.R_far (p := ⟨gb263, 1, none⟩) (Kd.R_far (p := ⟨gb263, 0, none⟩) (Kd.R_types HO256.out BK263.out (by decide)) (fun _ hk => hk.2) (.int .i64 t259)) (fun _ hk => hk.2) (.slice Ao78 t260.length co78)) (fun _ h_ => h_.1))) (Kd.R_base ho0) hb); have n3_ := Aside0.mk (Kd.R_elder' (rk (Kd.R_mono (Kd.R_far (p := ⟨gb263, 1, none⟩) (Kd.R_far (p := ⟨gb263, 0, none⟩) (Kd.R_types HO262.out BK263.out (by decide)) (fun _ hk => hk.2) (.int .i64 t259)) (fun _ hk => hk.2) (.slice Ao78 t260.length co78)) (fun _ h_ => h_.1))) (Kd.R_base ho0) hb); have n4_ := Aside0.mk (Kd.R_lower (Kd.R_new' (Kd.R_new' (Kd.R_new' (Kd.R_new' ho0 (Kd.R_lt (rk (Kd.R_mono (Kd.R_far (p := ⟨gb263, 1, none⟩) (Kd.R_far (p := ⟨gb263, 0, none⟩) (Kd.R_types HO248.out BK263.out (by decide)) (fun _ hk => hk.2) (.int .i64 t259)) (fun _ hk => hk.2) (.slice Ao78 t260.length co78)) (fun _ h_ => h_.1))))) (Kd.R_lt (rk (Kd.R_mono (Kd.R_far (p := ⟨gb263, 1, none⟩) (Kd.R_far (p := ⟨gb263, 0, none⟩) (Kd.R_types HO252.out BK263.out (by decide)) (fun _ hk => hk.2) (.int .i64 t259)) (fun _ hk => hk.2) (.slice Ao78 t260.length co78)) (fun _ h_ => h_.1))))) (Kd.R_lt (rk (Kd.R_mono (Kd.R_far (p := ⟨gb263, 1, none⟩) (Kd.R_far (p := ⟨gb263, 0, none⟩) (Kd.R_types HO256.out BK263.out (by decide)) (fun _ hk => hk.2) (.int .i64 t259)) (fun _ hk => hk.2) (.slice Ao78 t260.length co78)) (fun _ h_ => h_.1))))) (Kd.R_lt (rk (Kd.R_mono (Kd.R_far (p := ⟨gb263, 1, none⟩) (Kd.R_far (p := ⟨gb263, 0, none⟩) (Kd.R_types HO262.out BK263.out (by decide)) (fun _ hk => hk.2) (.int .i64 t259)) (fun _ hk => hk.2) (.slice Ao78 t260.length co78)) (fun _ h_ => h_.1))))) (below_size (bks HB.out))); have n5_ := Aside0.mk (blk_below (g := gb241) (o := .cells #[.int .i64 a0_0, .slice A0_1 l0_1.length c0_1] 32 (0, 0)) (by (with_reducible repeat (first | refine blk_drewN ?_ _ | refine blk_drew ?_ | refine blk_alloc ?_ _)); refine blk_far ?_ NB241_263.out _; (with_reducible repeat (first | refine blk_drewN ?_ _ | refine blk_drew ?_ | refine blk_alloc ?_ _)); refine blk_far ?_ NB241_263.out _; (with_reducible repeat (first | refine blk_drewN ?_ _ | refine blk_drew ?_ | refine blk_alloc ?_ _)); exact BK241.out) hb); have n6_ := Aside0.mk (blk_below (g := gb242) (o := .cells #[.int .i64 a1_0, .slice A1_1 l1_1.length c1_1] 32 (0, 0)) (by (with_reducible repeat (first | refine blk_drewN ?_ _ | refine blk_drew ?_ | refine blk_alloc ?_ _)); refine blk_far ?_ NB242_263.out _; (with_reducible repeat (first | refine blk_drewN ?_ _ | refine blk_drew ?_ | refine blk_alloc ?_ _)); refine blk_far ?_ NB242_263.out _; (with_reducible repeat (first | refine blk_drewN ?_ _ | refine blk_drew ?_ | refine blk_alloc ?_ _)); exact BK242.out) hb); have n7_ := Aside0.mk (blk_below (g := gb258) (o := .cells #[.int .i64 t253, .slice Ao68 t254.length co68] 24 (0, 0)) (by (with_reducible repeat (first | refine blk_drewN ?_ _ | refine blk_drew ?_ | refine blk_alloc ?_ _)); refine blk_far ?_ NB258_263.out _; (with_reducible repeat (first | refine blk_drewN ?_ _ | refine blk_drew ?_ | refine blk_alloc ?_ _)); refine blk_far ?_ NB258_263.out _; (with_reducible repeat (first | refine blk_drewN ?_ _ | refine blk_drew ?_ | refine blk_alloc ?_ _)); exact BK258.out) hb); have n8_ := Aside0.mk (blk_below (g := gb263) (o := .cells #[.int .i64 t259, .slice Ao78 t260.length co78] 24 (0, 0)) (by (with_reducible repeat (first | refine blk_drewN ?_ _ | refine blk_drew ?_ | refine blk_alloc ?_ _)); refine blk_put (cs := #[.int .i64 t259, .slice none 0 0]) ?_ 1 _ rfl; (with_reducible repeat (first | refine blk_drewN ?_ _ | refine blk_drew ?_ | refine blk_alloc ?_ _)); refine blk_put (cs := #[.int .i64 0, .slice none 0 0]) ?_ 0 _ rfl; (with_reducible repeat (first | refine blk_drewN ?_ _ | refine blk_drew ?_ | refine blk_alloc ?_ _)); exact BK263.out) hb); have n9_ := Aside0.mk (below_step (bks HB.out) hb); clear HO248; clear HO252; clear HO256; clear HO262; clear BK241; clear BK242; clear BK258; clear BK263; clear HB; have HO248 := n0_; have HO252 := n1_; have HO256 := n2_; have HO262 := n3_; have HO267 := n4_; have BK241 := n5_; have BK242 := n6_; have BK258 := n7_; have BK263 := n8_; have HB := n9_; clear n0_ n1_ n2_ n3_ n4_ n5_ n6_ n7_ n8_ n9_; (try clear hb); (try clear hb2); (try clear hk); (try clear hi); (try clear ho0)) | ((with_reducible refine gate_dst (N := 9) rfl ?_); refine box_event ?hg (N := 9) ?hd (cs := #[.int .i64 0, .slice none 0 0]) (t := 24) ?hr ?_; (case hd => rfl); (case hg => rfl); (case hr => first | (go_simp; done) | (go_simp; rfl)); intro gb268 hg w82 hbox hb; have n0_ := Aside0.mk (Kd.R_below (rk HO248.out) hb); have n1_ := Aside0.mk (Kd.R_below (rk HO252.out) hb); have n2_ := Aside0.mk (Kd.R_below (rk HO256.out) hb); have n3_ := Aside0.mk (Kd.R_below (rk HO262.out) hb); have n4_ := Aside0.mk (Kd.R_below (rk HO267.out) hb); have n5_ := Aside0.mk (blk_below (pk BK241.out) hb); have n6_ := Aside0.mk (blk_below (pk BK242.out) hb); have n7_ := Aside0.mk (blk_below (pk BK258.out) hb); have n8_ := Aside0.mk (blk_below (pk BK263.out) hb); have n9_ := Aside0.mk (below_step (bks HB.out) hb); have n10_ := Aside0.mk (hbox); have n11_ := Aside0.mk ((by rw [hg]; exact (below_size (bks HB.out)) : w.heap.size ≤ gb268)); have n12_ := Aside0.mk ((by rw [hg]; exact (below_size (bks HB.out)) : w.heap.size ≤ gb268)); have n13_ := Aside0.mk ((by rw [hg]; exact Nat.ne_of_lt (blk_lt (g := gb241) (o := .cells #[.int .i64 a0_0, .slice A0_1 l0_1.length c0_1] 32 (0, 0)) (pk BK241.out)) : gb241 ≠ gb268)); have n14_ := Aside0.mk ((by rw [hg]; exact Nat.ne_of_gt (blk_lt (g := gb241) (o := .cells #[.int .i64 a0_0, .slice A0_1 l0_1.length c0_1] 32 (0, 0)) (pk BK241.out)) : gb268 ≠ gb241)); have n15_ := Aside0.mk ((by rw [hg]; exact Nat.ne_of_lt (blk_lt (g := gb242) (o := .cells #[.int .i64 a1_0, .slice A1_1 l1_1.length c1_1] 32 (0, 0)) (pk BK242.out)) : gb242 ≠ gb268)); have n16_ := Aside0.mk ((by rw [hg]; exact Nat.ne_of_gt (blk_lt (g := gb242) (o := .cells #[.int .i64 a1_0, .slice A1_1 l1_1.length c1_1] 32 (0, 0)) (pk BK242.out)) : gb268 ≠ gb242)); have n17_ := Aside0.mk ((by rw [hg]; exact Nat.ne_of_lt (blk_lt (g := gb258) (o := .cells #[.int .i64 t253, .slice Ao68 t254.length co68] 24 (0, 0)) (pk BK258.out)) : gb258 ≠ gb268)); have n18_ := Aside0.mk ((by rw [hg]; exact Nat.ne_of_gt (blk_lt (g := gb258) (o := .cells #[.int .i64 t253, .slice Ao68 t254.length co68] 24 (0, 0)) (pk BK258.out)) : gb268 ≠ gb258)); have n19_ := Aside0.mk ((by rw [hg]; exact Nat.ne_of_lt (blk_lt (g := gb263) (o := .cells #[.int .i64 t259, .slice Ao78 t260.length co78] 24 (0, 0)) (pk BK263.out)) : gb263 ≠ gb268)); have n20_ := Aside0.mk ((by rw [hg]; exact Nat.ne_of_gt (blk_lt (g := gb263) (o := .cells #[.int .i64 t259, .slice Ao78 t260.length co78] 24 (0, 0)) (pk BK263.out)) : gb268 ≠ gb263)); clear HO248; clear HO252; clear HO256; clear HO262; clear HO267; clear BK241; clear BK242; clear BK258; clear BK263; clear HB; have HO248 := n0_; have HO252 := n1_; have HO256 := n2_; have HO262 := n3_; have HO267 := n4_; have BK241 := n5_; have BK242 := n6_; have BK258 := n7_; have BK263 := n8_; have HB := n9_; have BK268 := n10_; have GW268 := n11_; have GE268 := n12_; have NB241_268 := n13_; have NB268_241 := n14_; have NB242_268 := n15_; have NB268_242 := n16_; have NB258_268 := n17_; have NB268_258 := n18_; have NB263_268 := n19_; have NB268_263 := n20_; clear n0_ n1_ n2_ n3_ n4_ n5_ n6_ n7_ n8_ n9_ n10_ n11_ n12_ n13_ n14_ n15_ n16_ n17_ n18_ n19_ n20_; clear hb hbox hg; have hnb83 := NB268_241.out; have hnc83 := NB241_268.out; have hnb84 := NB268_242.out; have hnc84 := NB242_268.out; have hnb85 := NB268_258.out; have hnc85 := NB258_268.out; have hnb86 := NB268_263.out; have hnc86 := NB263_268.out; have hcz87_0 : w82.cell? ⟨gb268, 0, none⟩ = some (.int .i64 0) := (blk_cell BK268.out 0).trans rfl; have hcz87_1 : w82.cell? ⟨gb268, 1, none⟩ = some (.slice none 0 0) := (blk_cell BK268.out 1).trans rfl; have hfz87_0 := blk_frozen BK268.out 0; have hfz87_1 := blk_frozen BK268.out 1; obtain ⟨Ao88, co88, eo88⟩ := Kd.R_slice HO267.out; subst eo88; have hcz89_0 : w82.cell? ⟨gb263, 0, none⟩ = some (.int .i64 t259) := (blk_cell BK263.out 0).trans rfl; have hcz89_1 : w82.cell? ⟨gb263, 1, none⟩ = some (.slice Ao78 t260.length co78) := (blk_cell BK263.out 1).trans rfl; have hfz89_0 := blk_frozen BK263.out 0; have hfz89_1 := blk_frozen BK263.out 1) | ((with_reducible refine gate_callee (f := 28) rfl ?_); refine goesL_ (some 42) rfl rfl Try.func28 (by kernel_rfl) rfl #[.agg #[.int .i64 t259, .slice Ao78 t260.length co78], .agg #[.int .i64 t264, .slice Ao88 t265.length co88]] rfl (by (try simp only [List.map_toArray, List.map_cons, List.map_nil]); first | done | rfl | (simp only [List.length_drop, List.length_take]; rfl)) ?_; (with_reducible refine (impl_MultiplyRings.calls k t259 _ _ t260 t264 _ _ t265 t269 t270 t273 _ ?side1 ?side2 ?side3 ?side4 A24.out).mono ?_); (case side1 => exact (Kd.R_reads' (rk (Kd.R_far (p := ⟨gb268, 1, none⟩) (Kd.R_far (p := ⟨gb268, 0, none⟩) (Kd.R_types HO262.out BK268.out (by decide)) (fun _ hk => hk.2) (.int .i64 t264)) (fun _ hk => hk.2) (.slice Ao88 t265.length co88)))).2.2); (case side2 => exact (Kd.R_reads' HO262.out).2.1); (case side3 => exact (Kd.R_reads' (rk (Kd.R_far (p := ⟨gb268, 1, none⟩) (Kd.R_far (p := ⟨gb268, 0, none⟩) (Kd.R_types HO267.out BK268.out (by decide)) (fun _ hk => hk.2) (.int .i64 t264)) (fun _ hk => hk.2) (.slice Ao88 t265.length co88)))).2.2); (case side4 => exact (Kd.R_reads' HO267.out).2.1); rintro e w90 ⟨v271, rfl, ho0, hb⟩; refine ⟨_, rfl, ?_⟩; have n0_ := Aside0.mk (Kd.R_elder' (rk (Kd.R_mono (Kd.R_far (p := ⟨gb268, 1, none⟩) (Kd.R_far (p := ⟨gb268, 0, none⟩) (Kd.R_types HO248.out BK268.out (by decide)) (fun _ hk => hk.2) (.int .i64 t264)) (fun _ hk => hk.2) (.slice Ao88 t265.length co88)) (fun _ h_ => h_.1))) (Kd.R_base ho0) hb); have n1_ := Aside0.mk (Kd.R_elder' (rk (Kd.R_mono (Kd.R_far (p := ⟨gb268, 1, none⟩) (Kd.R_far (p := ⟨gb268, 0, none⟩) (Kd.R_types HO252.out BK268.out (by decide)) (fun _ hk => hk.2) (.int .i64 t264)) (fun _ hk => hk.2) (.slice Ao88 t265.length co88)) (fun _ h_ => h_.1))) (Kd.R_base ho0) hb); have n2_ := Aside0.mk (Kd.R_elder' (rk (Kd.R_mono (Kd.R_far (p := ⟨gb268, 1, none⟩) (Kd.R_far (p := ⟨gb268, 0, none⟩) (Kd.R_types HO256.out BK268.out (by decide)) (fun _ hk => hk.2) (.int .i64 t264)) (fun _ hk => hk.2) (.slice Ao88 t265.length co88)) (fun _ h_ => h_.1))) (Kd.R_base ho0) hb); have n3_ := Aside0.mk (Kd.R_elder' (rk (Kd.R_mono (Kd.R_far (p := ⟨gb268, 1, none⟩) (Kd.R_far (p := ⟨gb268, 0, none⟩) (Kd.R_types HO262.out BK268.out (by decide)) (fun _ hk => hk.2) (.int .i64 t264)) (fun _ hk => hk.2) (.slice Ao88 t265.length co88)) (fun _ h_ => h_.1))) (Kd.R_base ho0) hb); have n4_ := Aside0.mk (Kd.R_elder' (rk (Kd.R_mono (Kd.R_far (p := ⟨gb268, 1, none⟩) (Kd.R_far (p := ⟨gb268, 0, none⟩) (Kd.R_types HO267.out BK268.out (by decide)) (fun _ hk => hk.2) (.int .i64 t264)) (fun _ hk => hk.2) (.slice Ao88 t265.length co88)) (fun _ h_ => h_.1))) (Kd.R_base ho0) hb); have n5_ := Aside0.mk (Kd.R_lower (Kd.R_new' (Kd.R_new' (Kd.R_new' (Kd.R_new' (Kd.R_new' ho0 (Kd.R_lt (rk (Kd.R_mono (Kd.R_far (p := ⟨gb268, 1, none⟩) (Kd.R_far (p := ⟨gb268, 0, none⟩) (Kd.R_types HO248.out BK268.out (by decide)) (fun _ hk => hk.2) (.int .i64 t264)) (fun _ hk => hk.2) (.slice Ao88 t265.length co88)) (fun _ h_ => h_.1))))) (Kd.R_lt (rk (Kd.R_mono (Kd.R_far (p := ⟨gb268, 1, none⟩) (Kd.R_far (p := ⟨gb268, 0, none⟩) (Kd.R_types HO252.out BK268.out (by decide)) (fun _ hk => hk.2) (.int .i64 t264)) (fun _ hk => hk.2) (.slice Ao88 t265.length co88)) (fun _ h_ => h_.1))))) (Kd.R_lt (rk (Kd.R_mono (Kd.R_far (p := ⟨gb268, 1, none⟩) (Kd.R_far (p := ⟨gb268, 0, none⟩) (Kd.R_types HO256.out BK268.out (by decide)) (fun _ hk => hk.2) (.int .i64 t264)) (fun _ hk => hk.2) (.slice Ao88 t265.length co88)) (fun _ h_ => h_.1))))) (Kd.R_lt (rk (Kd.R_mono (Kd.R_far (p := ⟨gb268, 1, none⟩) (Kd.R_far (p := ⟨gb268, 0, none⟩) (Kd.R_types HO262.out BK268.out (by decide)) (fun _ hk => hk.2) (.int .i64 t264)) (fun _ hk => hk.2) (.slice Ao88 t265.length co88)) (fun _ h_ => h_.1))))) (Kd.R_lt (rk (Kd.R_mono (Kd.R_far (p := ⟨gb268, 1, none⟩) (Kd.R_far (p := ⟨gb268, 0, none⟩) (Kd.R_types HO267.out BK268.out (by decide)) (fun _ hk => hk.2) (.int .i64 t264)) (fun _ hk => hk.2) (.slice Ao88 t265.length co88)) (fun _ h_ => h_.1))))) (below_size (bks HB.out))); have n6_ := Aside0.mk (blk_below (g := gb241) (o := .cells #[.int .i64 a0_0, .slice A0_1 l0_1.length c0_1] 32 (0, 0)) (by (with_reducible repeat (first | refine blk_drewN ?_ _ | refine blk_drew ?_ | refine blk_alloc ?_ _)); refine blk_far ?_ NB241_268.out _; (with_reducible repeat (first | refine blk_drewN ?_ _ | refine blk_drew ?_ | refine blk_alloc ?_ _)); refine blk_far ?_ NB241_268.out _; (with_reducible repeat (first | refine blk_drewN ?_ _ | refine blk_drew ?_ | refine blk_alloc ?_ _)); exact BK241.out) hb); have n7_ := Aside0.mk (blk_below (g := gb242) (o := .cells #[.int .i64 a1_0, .slice A1_1 l1_1.length c1_1] 32 (0, 0)) (by (with_reducible repeat (first | refine blk_drewN ?_ _ | refine blk_drew ?_ | refine blk_alloc ?_ _)); refine blk_far ?_ NB242_268.out _; (with_reducible repeat (first | refine blk_drewN ?_ _ | refine blk_drew ?_ | refine blk_alloc ?_ _)); refine blk_far ?_ NB242_268.out _; (with_reducible repeat (first | refine blk_drewN ?_ _ | refine blk_drew ?_ | refine blk_alloc ?_ _)); exact BK242.out) hb); have n8_ := Aside0.mk (blk_below (g := gb258) (o := .cells #[.int .i64 t253, .slice Ao68 t254.length co68] 24 (0, 0)) (by (with_reducible repeat (first | refine blk_drewN ?_ _ | refine blk_drew ?_ | refine blk_alloc ?_ _)); refine blk_far ?_ NB258_268.out _; (with_reducible repeat (first | refine blk_drewN ?_ _ | refine blk_drew ?_ | refine blk_alloc ?_ _)); refine blk_far ?_ NB258_268.out _; (with_reducible repeat (first | refine blk_drewN ?_ _ | refine blk_drew ?_ | refine blk_alloc ?_ _)); exact BK258.out) hb); have n9_ := Aside0.mk (blk_below (g := gb263) (o := .cells #[.int .i64 t259, .slice Ao78 t260.length co78] 24 (0, 0)) (by (with_reducible repeat (first | refine blk_drewN ?_ _ | refine blk_drew ?_ | refine blk_alloc ?_ _)); refine blk_far ?_ NB263_268.out _; (with_reducible repeat (first | refine blk_drewN ?_ _ | refine blk_drew ?_ | refine blk_alloc ?_ _)); refine blk_far ?_ NB263_268.out _; (with_reducible repeat (first | refine blk_drewN ?_ _ | refine blk_drew ?_ | refine blk_alloc ?_ _)); exact BK263.out) hb); have n10_ := Aside0.mk (blk_below (g := gb268) (o := .cells #[.int .i64 t264, .slice Ao88 t265.length co88] 24 (0, 0)) (by (with_reducible repeat (first | refine blk_drewN ?_ _ | refine blk_drew ?_ | refine blk_alloc ?_ _)); refine blk_put (cs := #[.int .i64 t264, .slice none 0 0]) ?_ 1 _ rfl; (with_reducible repeat (first | refine blk_drewN ?_ _ | refine blk_drew ?_ | refine blk_alloc ?_ _)); refine blk_put (cs := #[.int .i64 0, .slice none 0 0]) ?_ 0 _ rfl; (with_reducible repeat (first | refine blk_drewN ?_ _ | refine blk_drew ?_ | refine blk_alloc ?_ _)); exact BK268.out) hb); have n11_ := Aside0.mk (below_step (bks HB.out) hb); clear HO248; clear HO252; clear HO256; clear HO262; clear HO267; clear BK241; clear BK242; clear BK258; clear BK263; clear BK268; clear HB; have HO248 := n0_; have HO252 := n1_; have HO256 := n2_; have HO262 := n3_; have HO267 := n4_; have HO272 := n5_; have BK241 := n6_; have BK242 := n7_; have BK258 := n8_; have BK263 := n9_; have BK268 := n10_; have HB := n11_; clear n0_ n1_ n2_ n3_ n4_ n5_ n6_ n7_ n8_ n9_ n10_ n11_; (try clear hb); (try clear hb2); (try clear hk); (try clear hi); (try clear ho0)) | ((with_reducible refine gate_dst (N := 10) rfl ?_); refine box_event ?hg (N := 10) ?hd (cs := #[.int .i64 0, .slice none 0 0]) (t := 24) ?hr ?_; (case hd => rfl); (case hg => rfl); (case hr => first | (go_simp; done) | (go_simp; rfl)); intro gb274 hg w91 hbox hb; have n0_ := Aside0.mk (Kd.R_below (rk HO248.out) hb); have n1_ := Aside0.mk (Kd.R_below (rk HO252.out) hb); have n2_ := Aside0.mk (Kd.R_below (rk HO256.out) hb); have n3_ := Aside0.mk (Kd.R_below (rk HO262.out) hb); have n4_ := Aside0.mk (Kd.R_below (rk HO267.out) hb); have n5_ := Aside0.mk (Kd.R_below (rk HO272.out) hb); have n6_ := Aside0.mk (blk_below (pk BK241.out) hb); have n7_ := Aside0.mk (blk_below (pk BK242.out) hb); have n8_ := Aside0.mk (blk_below (pk BK258.out) hb); have n9_ := Aside0.mk (blk_below (pk BK263.out) hb); have n10_ := Aside0.mk (blk_below (pk BK268.out) hb); have n11_ := Aside0.mk (below_step (bks HB.out) hb); have n12_ := Aside0.mk (hbox); have n13_ := Aside0.mk ((by rw [hg]; exact (below_size (bks HB.out)) : w.heap.size ≤ gb274)); have n14_ := Aside0.mk ((by rw [hg]; exact (below_size (bks HB.out)) : w.heap.size ≤ gb274)); have n15_ := Aside0.mk ((by rw [hg]; exact Nat.ne_of_lt (blk_lt (g := gb241) (o := .cells #[.int .i64 a0_0, .slice A0_1 l0_1.length c0_1] 32 (0, 0)) (pk BK241.out)) : gb241 ≠ gb274)); have n16_ := Aside0.mk ((by rw [hg]; exact Nat.ne_of_gt (blk_lt (g := gb241) (o := .cells #[.int .i64 a0_0, .slice A0_1 l0_1.length c0_1] 32 (0, 0)) (pk BK241.out)) : gb274 ≠ gb241)); have n17_ := Aside0.mk ((by rw [hg]; exact Nat.ne_of_lt (blk_lt (g := gb242) (o := .cells #[.int .i64 a1_0, .slice A1_1 l1_1.length c1_1] 32 (0, 0)) (pk BK242.out)) : gb242 ≠ gb274)); have n18_ := Aside0.mk ((by rw [hg]; exact Nat.ne_of_gt (blk_lt (g := gb242) (o := .cells #[.int .i64 a1_0, .slice A1_1 l1_1.length c1_1] 32 (0, 0)) (pk BK242.out)) : gb274 ≠ gb242)); have n19_ := Aside0.mk ((by rw [hg]; exact Nat.ne_of_lt (blk_lt (g := gb258) (o := .cells #[.int .i64 t253, .slice Ao68 t254.length co68] 24 (0, 0)) (pk BK258.out)) : gb258 ≠ gb274)); have n20_ := Aside0.mk ((by rw [hg]; exact Nat.ne_of_gt (blk_lt (g := gb258) (o := .cells #[.int .i64 t253, .slice Ao68 t254.length co68] 24 (0, 0)) (pk BK258.out)) : gb274 ≠ gb258)); have n21_ := Aside0.mk ((by rw [hg]; exact Nat.ne_of_lt (blk_lt (g := gb263) (o := .cells #[.int .i64 t259, .slice Ao78 t260.length co78] 24 (0, 0)) (pk BK263.out)) : gb263 ≠ gb274)); have n22_ := Aside0.mk ((by rw [hg]; exact Nat.ne_of_gt (blk_lt (g := gb263) (o := .cells #[.int .i64 t259, .slice Ao78 t260.length co78] 24 (0, 0)) (pk BK263.out)) : gb274 ≠ gb263)); have n23_ := Aside0.mk ((by rw [hg]; exact Nat.ne_of_lt (blk_lt (g := gb268) (o := .cells #[.int .i64 t264, .slice Ao88 t265.length co88] 24 (0, 0)) (pk BK268.out)) : gb268 ≠ gb274)); have n24_ := Aside0.mk ((by rw [hg]; exact Nat.ne_of_gt (blk_lt (g := gb268) (o := .cells #[.int .i64 t264, .slice Ao88 t265.length co88] 24 (0, 0)) (pk BK268.out)) : gb274 ≠ gb268)); clear HO248; clear HO252; clear HO256; clear HO262; clear HO267; clear HO272; clear BK241; clear BK242; clear BK258; clear BK263; clear BK268; clear HB; have HO248 := n0_; have HO252 := n1_; have HO256 := n2_; have HO262 := n3_; have HO267 := n4_; have HO272 := n5_; have BK241 := n6_; have BK242 := n7_; have BK258 := n8_; have BK263 := n9_; have BK268 := n10_; have HB := n11_; have BK274 := n12_; have GW274 := n13_; have GE274 := n14_; have NB241_274 := n15_; have NB274_241 := n16_; have NB242_274 := n17_; have NB274_242 := n18_; have NB258_274 := n19_; have NB274_258 := n20_; have NB263_274 := n21_; have NB274_263 := n22_; have NB268_274 := n23_; have NB274_268 := n24_; clear n0_ n1_ n2_ n3_ n4_ n5_ n6_ n7_ n8_ n9_ n10_ n11_ n12_ n13_ n14_ n15_ n16_ n17_ n18_ n19_ n20_ n21_ n22_ n23_ n24_; clear hb hbox hg; have hnb92 := NB274_241.out; have hnc92 := NB241_274.out; have hnb93 := NB274_242.out; have hnc93 := NB242_274.out; have hnb94 := NB274_258.out; have hnc94 := NB258_274.out; have hnb95 := NB274_263.out; have hnc95 := NB263_274.out; have hnb96 := NB274_268.out; have hnc96 := NB268_274.out; have hcz97_0 : w91.cell? ⟨gb274, 0, none⟩ = some (.int .i64 0) := (blk_cell BK274.out 0).trans rfl; have hcz97_1 : w91.cell? ⟨gb274, 1, none⟩ = some (.slice none 0 0) := (blk_cell BK274.out 1).trans rfl; have hfz97_0 := blk_frozen BK274.out 0; have hfz97_1 := blk_frozen BK274.out 1; obtain ⟨Ao98, co98, eo98⟩ := Kd.R_slice HO272.out; subst eo98; have hcz99_0 : w91.cell? ⟨gb258, 0, none⟩ = some (.int .i64 t253) := (blk_cell BK258.out 0).trans rfl; have hcz99_1 : w91.cell? ⟨gb258, 1, none⟩ = some (.slice Ao68 t254.length co68) := (blk_cell BK258.out 1).trans rfl; have hfz99_0 := blk_frozen BK258.out 0; have hfz99_1 := blk_frozen BK258.out 1) | ((with_reducible refine gate_callee (f := 14) rfl ?_); refine goesL_ (some 47) rfl rfl Try.func14 (by kernel_rfl) rfl #[.agg #[.int .i64 t269, .slice Ao98 t270.length co98], .agg #[.int .i64 t253, .slice Ao68 t254.length co68]] rfl (by (try simp only [List.map_toArray, List.map_cons, List.map_nil]); first | done | rfl | (simp only [List.length_drop, List.length_take]; rfl)) ?_; (with_reducible refine (laws_eqRing.calls k t269 _ _ t270 t253 _ _ t254 true _ ?side1 ?side2 ?side3 ?side4 A25.out).mono ?_); (case side1 => exact (Kd.R_reads' (rk (Kd.R_far (p := ⟨gb274, 1, none⟩) (Kd.R_far (p := ⟨gb274, 0, none⟩) (Kd.R_types HO272.out BK274.out (by decide)) (fun _ hk => hk.2) (.int .i64 t269)) (fun _ hk => hk.2) (.slice Ao98 t270.length co98)))).2.2); (case side2 => exact (Kd.R_reads' HO272.out).2.1); (case side3 => exact (Kd.R_reads' (rk (Kd.R_far (p := ⟨gb274, 1, none⟩) (Kd.R_far (p := ⟨gb274, 0, none⟩) (Kd.R_types HO256.out BK274.out (by decide)) (fun _ hk => hk.2) (.int .i64 t269)) (fun _ hk => hk.2) (.slice Ao98 t270.length co98)))).2.2); (case side4 => exact (Kd.R_reads' HO256.out).2.1); rintro e w100 ⟨rfl, hb⟩; refine ⟨_, rfl, ?_⟩; have n0_ := Aside0.mk (Kd.R_below (rk (Kd.R_mono (Kd.R_far (p := ⟨gb274, 1, none⟩) (Kd.R_far (p := ⟨gb274, 0, none⟩) (Kd.R_types HO248.out BK274.out (by decide)) (fun _ hk => hk.2) (.int .i64 t269)) (fun _ hk => hk.2) (.slice Ao98 t270.length co98)) (fun _ h_ => h_.1))) hb); have n1_ := Aside0.mk (Kd.R_below (rk (Kd.R_mono (Kd.R_far (p := ⟨gb274, 1, none⟩) (Kd.R_far (p := ⟨gb274, 0, none⟩) (Kd.R_types HO252.out BK274.out (by decide)) (fun _ hk => hk.2) (.int .i64 t269)) (fun _ hk => hk.2) (.slice Ao98 t270.length co98)) (fun _ h_ => h_.1))) hb); have n2_ := Aside0.mk (Kd.R_below (rk (Kd.R_mono (Kd.R_far (p := ⟨gb274, 1, none⟩) (Kd.R_far (p := ⟨gb274, 0, none⟩) (Kd.R_types HO256.out BK274.out (by decide)) (fun _ hk => hk.2) (.int .i64 t269)) (fun _ hk => hk.2) (.slice Ao98 t270.length co98)) (fun _ h_ => h_.1))) hb); have n3_ := Aside0.mk (Kd.R_below (rk (Kd.R_mono (Kd.R_far (p := ⟨gb274, 1, none⟩) (Kd.R_far (p := ⟨gb274, 0, none⟩) (Kd.R_types HO262.out BK274.out (by decide)) (fun _ hk => hk.2) (.int .i64 t269)) (fun _ hk => hk.2) (.slice Ao98 t270.length co98)) (fun _ h_ => h_.1))) hb); have n4_ := Aside0.mk (Kd.R_below (rk (Kd.R_mono (Kd.R_far (p := ⟨gb274, 1, none⟩) (Kd.R_far (p := ⟨gb274, 0, none⟩) (Kd.R_types HO267.out BK274.out (by decide)) (fun _ hk => hk.2) (.int .i64 t269)) (fun _ hk => hk.2) (.slice Ao98 t270.length co98)) (fun _ h_ => h_.1))) hb); have n5_ := Aside0.mk (Kd.R_below (rk (Kd.R_mono (Kd.R_far (p := ⟨gb274, 1, none⟩) (Kd.R_far (p := ⟨gb274, 0, none⟩) (Kd.R_types HO272.out BK274.out (by decide)) (fun _ hk => hk.2) (.int .i64 t269)) (fun _ hk => hk.2) (.slice Ao98 t270.length co98)) (fun _ h_ => h_.1))) hb); have n6_ := Aside0.mk (blk_below (g := gb241) (o := .cells #[.int .i64 a0_0, .slice A0_1 l0_1.length c0_1] 32 (0, 0)) (by (with_reducible repeat (first | refine blk_drewN ?_ _ | refine blk_drew ?_ | refine blk_alloc ?_ _)); refine blk_far ?_ NB241_274.out _; (with_reducible repeat (first | refine blk_drewN ?_ _ | refine blk_drew ?_ | refine blk_alloc ?_ _)); refine blk_far ?_ NB241_274.out _; (with_reducible repeat (first | refine blk_drewN ?_ _ | refine blk_drew ?_ | refine blk_alloc ?_ _)); exact BK241.out) hb); have n7_ := Aside0.mk (blk_below (g := gb242) (o := .cells #[.int .i64 a1_0, .slice A1_1 l1_1.length c1_1] 32 (0, 0)) (by (with_reducible repeat (first | refine blk_drewN ?_ _ | refine blk_drew ?_ | refine blk_alloc ?_ _)); refine blk_far ?_ NB242_274.out _; (with_reducible repeat (first | refine blk_drewN ?_ _ | refine blk_drew ?_ | refine blk_alloc ?_ _)); refine blk_far ?_ NB242_274.out _; (with_reducible repeat (first | refine blk_drewN ?_ _ | refine blk_drew ?_ | refine blk_alloc ?_ _)); exact BK242.out) hb); have n8_ := Aside0.mk (blk_below (g := gb258) (o := .cells #[.int .i64 t253, .slice Ao68 t254.length co68] 24 (0, 0)) (by (with_reducible repeat (first | refine blk_drewN ?_ _ | refine blk_drew ?_ | refine blk_alloc ?_ _)); refine blk_far ?_ NB258_274.out _; (with_reducible repeat (first | refine blk_drewN ?_ _ | refine blk_drew ?_ | refine blk_alloc ?_ _)); refine blk_far ?_ NB258_274.out _; (with_reducible repeat (first | refine blk_drewN ?_ _ | refine blk_drew ?_ | refine blk_alloc ?_ _)); exact BK258.out) hb); have n9_ := Aside0.mk (blk_below (g := gb263) (o := .cells #[.int .i64 t259, .slice Ao78 t260.length co78] 24 (0, 0)) (by (with_reducible repeat (first | refine blk_drewN ?_ _ | refine blk_drew ?_ | refine blk_alloc ?_ _)); refine blk_far ?_ NB263_274.out _; (with_reducible repeat (first | refine blk_drewN ?_ _ | refine blk_drew ?_ | refine blk_alloc ?_ _)); refine blk_far ?_ NB263_274.out _; (with_reducible repeat (first | refine blk_drewN ?_ _ | refine blk_drew ?_ | refine blk_alloc ?_ _)); exact BK263.out) hb); have n10_ := Aside0.mk (blk_below (g := gb268) (o := .cells #[.int .i64 t264, .slice Ao88 t265.length co88] 24 (0, 0)) (by (with_reducible repeat (first | refine blk_drewN ?_ _ | refine blk_drew ?_ | refine blk_alloc ?_ _)); refine blk_far ?_ NB268_274.out _; (with_reducible repeat (first | refine blk_drewN ?_ _ | refine blk_drew ?_ | refine blk_alloc ?_ _)); refine blk_far ?_ NB268_274.out _; (with_reducible repeat (first | refine blk_drewN ?_ _ | refine blk_drew ?_ | refine blk_alloc ?_ _)); exact BK268.out) hb); have n11_ := Aside0.mk (blk_below (g := gb274) (o := .cells #[.int .i64 t269, .slice Ao98 t270.length co98] 24 (0, 0)) (by (with_reducible repeat (first | refine blk_drewN ?_ _ | refine blk_drew ?_ | refine blk_alloc ?_ _)); refine blk_put (cs := #[.int .i64 t269, .slice none 0 0]) ?_ 1 _ rfl; (with_reducible repeat (first | refine blk_drewN ?_ _ | refine blk_drew ?_ | refine blk_alloc ?_ _)); refine blk_put (cs := #[.int .i64 0, .slice none 0 0]) ?_ 0 _ rfl; (with_reducible repeat (first | refine blk_drewN ?_ _ | refine blk_drew ?_ | refine blk_alloc ?_ _)); exact BK274.out) hb); have n12_ := Aside0.mk (below_step (bks HB.out) hb); clear HO248; clear HO252; clear HO256; clear HO262; clear HO267; clear HO272; clear BK241; clear BK242; clear BK258; clear BK263; clear BK268; clear BK274; clear HB; have HO248 := n0_; have HO252 := n1_; have HO256 := n2_; have HO262 := n3_; have HO267 := n4_; have HO272 := n5_; have BK241 := n6_; have BK242 := n7_; have BK258 := n8_; have BK263 := n9_; have BK268 := n10_; have BK274 := n11_; have HB := n12_; clear n0_ n1_ n2_ n3_ n4_ n5_ n6_ n7_ n8_ n9_ n10_ n11_ n12_; (try clear hb); (try clear hb2); (try clear hk); (try clear hi)))
      have n0_ := Aside0.mk (Kd.R_drew HO248.out)
      have n1_ := Aside0.mk (Kd.R_drew HO252.out)
      have n2_ := Aside0.mk (Kd.R_drew HO256.out)
      have n3_ := Aside0.mk (Kd.R_drew HO262.out)
      have n4_ := Aside0.mk (Kd.R_drew HO267.out)
      have n5_ := Aside0.mk (Kd.R_drew HO272.out)
      have n6_ := Aside0.mk (blk_drew BK241.out)
      have n7_ := Aside0.mk (blk_drew BK242.out)
      have n8_ := Aside0.mk (blk_drew BK258.out)
      have n9_ := Aside0.mk (blk_drew BK263.out)
      have n10_ := Aside0.mk (blk_drew BK268.out)
      have n11_ := Aside0.mk (blk_drew BK274.out)
      have n12_ := Aside0.mk (below_drew1 HB.out)
      clear HO248 HO252 HO256 HO262 HO267 HO272 BK241 BK242 BK258 BK263 BK268 BK274 HB
      have HO248 := n0_
      have HO252 := n1_
      have HO256 := n2_
      have HO262 := n3_
      have HO267 := n4_
      have HO272 := n5_
      have BK241 := n6_
      have BK242 := n7_
      have BK258 := n8_
      have BK263 := n9_
      have BK268 := n10_
      have BK274 := n11_
      have HB := n12_
      clear n0_ n1_ n2_ n3_ n4_ n5_ n6_ n7_ n8_ n9_ n10_ n11_ n12_
      refine start_ (n := 5) (S := fun w' => w'.cell? ⟨gb263, 0, none⟩ = some (.int .i64 t259) ∧ w'.cell? ⟨gb263, 1, none⟩ = some (.slice Ao78 t260.length co78) ∧ w'.cell? ⟨gb241, 0, none⟩ = some (.int .i64 a0_0) ∧ w'.cell? ⟨gb241, 1, none⟩ = some (.slice A0_1 l0_1.length c0_1)) (ds := []) #[false, false, false, false, false] (by kernel_rfl) rfl rfl ⟨(blk_cell BK263.out 0).trans rfl, (blk_cell BK263.out 1).trans rfl, (blk_cell BK241.out 0).trans rfl, (blk_cell BK241.out 1).trans rfl⟩ (fun hHeld => ?_)
      generalize w100.drew = w101 at HO248 HO252 HO256 HO262 HO267 HO272 BK241 BK242 BK258 BK263 BK268 BK274 HB hHeld ⊢
      refine take_ (i := 0) (N := some 54) (v := ?_) (a' := ?_) #[true, false, false, false, false] rfl rfl (by kernel_rfl) (fun _ _ _ h => h) (Or.inl ⟨by rfl, ?_⟩) hHeld ?_ ?_
      rotate_left
      · rintro w' ⟨s0, s1, s2, s3⟩
        go_simp
        with_reducible rfl
      rotate_left
      · simp only [Act.put, List.setIfInBounds_toArray, List.set_cons_zero, List.set_cons_succ, i64_w, i32_w]
        rfl
      refine take_ (i := 1) (N := some 55) (v := ?_) (a' := ?_) #[true, true, false, false, false] rfl rfl (by kernel_rfl) (fun _ _ _ h => h) (Or.inl ⟨by rfl, ?_⟩) hHeld ?_ ?_
      rotate_left
      · rintro w' ⟨s0, s1, s2, s3⟩
        go_simp
        with_reducible rfl
      rotate_left
      · simp only [Act.put, List.setIfInBounds_toArray, List.set_cons_zero, List.set_cons_succ, i64_w, i32_w]
        rfl
      refine one_ (i := 2) (N := some 56) #[true, true, true, false, false] rfl rfl (by kernel_rfl) (by decide) (fun K hK => ?_)
      refine goes_ Try.func21 (by kernel_rfl) rfl #[.agg #[.int .i64 a0_0, .slice A0_1 l0_1.length c0_1]] (by rfl) rfl rfl (by (try simp only [List.map_toArray, List.map_cons, List.map_nil]); first | done | rfl | (simp only [List.length_drop, List.length_take]; rfl)) ?_
      with_reducible refine (laws_toRing.calls k a0_0 _ _ l0_1 t276 t277 _ ?side1 ?side2 A28.out).mono ?_
      (case side1 => repeat (first | exact (Kd.C_below HR0_1.out HB.out) | (with_reducible refine Kd.C_alloc ?_ _) | (with_reducible refine Kd.C_drewN ?_ _) | (with_reducible refine Kd.C_drew ?_)))
      (case side2 => exact HC0_1.out)
      rintro e w102 ⟨v278, rfl, ho0, hb⟩
      refine ⟨_, rfl, ?_⟩
      have n0_ := Aside0.mk (Kd.R_elder' (rk HO248.out) (Kd.R_base ho0) hb)
      have n1_ := Aside0.mk (Kd.R_elder' (rk HO252.out) (Kd.R_base ho0) hb)
      have n2_ := Aside0.mk (Kd.R_elder' (rk HO256.out) (Kd.R_base ho0) hb)
      have n3_ := Aside0.mk (Kd.R_elder' (rk HO262.out) (Kd.R_base ho0) hb)
      have n4_ := Aside0.mk (Kd.R_elder' (rk HO267.out) (Kd.R_base ho0) hb)
      have n5_ := Aside0.mk (Kd.R_elder' (rk HO272.out) (Kd.R_base ho0) hb)
      have n6_ := Aside0.mk (Kd.R_lower (Kd.R_new' (Kd.R_new' (Kd.R_new' (Kd.R_new' (Kd.R_new' (Kd.R_new' ho0 (Kd.R_lt (rk HO248.out))) (Kd.R_lt (rk HO252.out))) (Kd.R_lt (rk HO256.out))) (Kd.R_lt (rk HO262.out))) (Kd.R_lt (rk HO267.out))) (Kd.R_lt (rk HO272.out))) (below_size (bks HB.out)))
      have n7_ := Aside0.mk (blk_below (pk BK241.out) hb)
      have n8_ := Aside0.mk (blk_below (pk BK242.out) hb)
      have n9_ := Aside0.mk (blk_below (pk BK258.out) hb)
      have n10_ := Aside0.mk (blk_below (pk BK263.out) hb)
      have n11_ := Aside0.mk (blk_below (pk BK268.out) hb)
      have n12_ := Aside0.mk (blk_below (pk BK274.out) hb)
      have n13_ := Aside0.mk (below_step (bks HB.out) hb)
      clear HO248 HO252 HO256 HO262 HO267 HO272 BK241 BK242 BK258 BK263 BK268 BK274 HB
      have HO248 := n0_
      have HO252 := n1_
      have HO256 := n2_
      have HO262 := n3_
      have HO267 := n4_
      have HO272 := n5_
      have HO279 := n6_
      have BK241 := n7_
      have BK242 := n8_
      have BK258 := n9_
      have BK263 := n10_
      have BK268 := n11_
      have BK274 := n12_
      have HB := n13_
      clear n0_ n1_ n2_ n3_ n4_ n5_ n6_ n7_ n8_ n9_ n10_ n11_ n12_ n13_
      (try clear hb)
      (try clear hb2)
      (try clear hk)
      (try clear hi)
      (try clear ho0)
      obtain ⟨Ao103, co103, eo103⟩ := Kd.R_slice HO279.out
      (first | subst eo103 | (injection eo103 with f1_ f2_ f3_; have f4_ := f1_.symm; have f5_ := f3_.symm; clear f1_ f2_ f3_; subst f4_; subst f5_))
      refine hK.out _ _ ⟨(blk_cell BK263.out 0).trans rfl, (blk_cell BK263.out 1).trans rfl, (blk_cell BK241.out 0).trans rfl, (blk_cell BK241.out 1).trans rfl⟩ (fun hHeld => ?_)
      clear hK K
      refine norm_ (a' := ?_) ?_ ?_
      rotate_left
      · show Act.put _ (some 56) _ = _
        simp only [Act.put, List.setIfInBounds_toArray, List.set_cons_zero, List.set_cons_succ, i64_w, i32_w]
        rfl
      refine one_ (i := 3) (N := some 57) #[true, true, true, true, false] rfl rfl (by kernel_rfl) (by decide) (fun K hK => ?_)
      refine goes_ Try.func14 (by kernel_rfl) rfl #[.agg #[.int .i64 t259, .slice Ao78 t260.length co78], .agg #[.int .i64 t276, .slice Ao103 t277.length co103]] (by rfl) rfl rfl (by (try simp only [List.map_toArray, List.map_cons, List.map_nil]); first | done | rfl | (simp only [List.length_drop, List.length_take]; rfl)) ?_
      with_reducible refine (laws_eqRing.calls k t259 _ _ t260 t276 _ _ t277 true _ ?side1 ?side2 ?side3 ?side4 A29.out).mono ?_
      (case side1 => repeat (first | exact (Kd.R_reads' HO262.out).2.2 | (with_reducible refine Kd.C_alloc ?_ _) | (with_reducible refine Kd.C_drewN ?_ _) | (with_reducible refine Kd.C_drew ?_)))
      (case side2 => exact (Kd.R_reads' HO262.out).2.1)
      (case side3 => repeat (first | exact (Kd.R_reads' HO279.out).2.2 | (with_reducible refine Kd.C_alloc ?_ _) | (with_reducible refine Kd.C_drewN ?_ _) | (with_reducible refine Kd.C_drew ?_)))
      (case side4 => exact (Kd.R_reads' HO279.out).2.1)
      rintro e w104 ⟨rfl, hb⟩
      refine ⟨_, rfl, ?_⟩
      have n0_ := Aside0.mk (Kd.R_below (rk HO248.out) hb)
      have n1_ := Aside0.mk (Kd.R_below (rk HO252.out) hb)
      have n2_ := Aside0.mk (Kd.R_below (rk HO256.out) hb)
      have n3_ := Aside0.mk (Kd.R_below (rk HO262.out) hb)
      have n4_ := Aside0.mk (Kd.R_below (rk HO267.out) hb)
      have n5_ := Aside0.mk (Kd.R_below (rk HO272.out) hb)
      have n6_ := Aside0.mk (Kd.R_below (rk HO279.out) hb)
      have n7_ := Aside0.mk (blk_below (pk BK241.out) hb)
      have n8_ := Aside0.mk (blk_below (pk BK242.out) hb)
      have n9_ := Aside0.mk (blk_below (pk BK258.out) hb)
      have n10_ := Aside0.mk (blk_below (pk BK263.out) hb)
      have n11_ := Aside0.mk (blk_below (pk BK268.out) hb)
      have n12_ := Aside0.mk (blk_below (pk BK274.out) hb)
      have n13_ := Aside0.mk (below_step (bks HB.out) hb)
      clear HO248 HO252 HO256 HO262 HO267 HO272 HO279 BK241 BK242 BK258 BK263 BK268 BK274 HB
      have HO248 := n0_
      have HO252 := n1_
      have HO256 := n2_
      have HO262 := n3_
      have HO267 := n4_
      have HO272 := n5_
      have HO279 := n6_
      have BK241 := n7_
      have BK242 := n8_
      have BK258 := n9_
      have BK263 := n10_
      have BK268 := n11_
      have BK274 := n12_
      have HB := n13_
      clear n0_ n1_ n2_ n3_ n4_ n5_ n6_ n7_ n8_ n9_ n10_ n11_ n12_ n13_
      (try clear hb)
      (try clear hb2)
      (try clear hk)
      (try clear hi)
      refine hK.out _ _ ⟨(blk_cell BK263.out 0).trans rfl, (blk_cell BK263.out 1).trans rfl, (blk_cell BK241.out 0).trans rfl, (blk_cell BK241.out 1).trans rfl⟩ (fun hHeld => ?_)
      clear hK K
      refine norm_ (a' := ?_) ?_ ?_
      rotate_left
      · show Act.put _ (some 57) _ = _
        simp only [Act.put, List.setIfInBounds_toArray, List.set_cons_zero, List.set_cons_succ, i64_w, i32_w]
        rfl
      refine pure_ (i := 4) (N := some 58) (v := ?_) (a' := ?_) #[true, true, true, true, true] rfl rfl (by kernel_rfl) (fun _ _ _ h => h) (Or.inl ⟨by rfl, ?_⟩) ?_ ?_
      rotate_left
      · intro w'
        go_simp
        with_reducible rfl
      rotate_left
      · simp only [Act.put, List.setIfInBounds_toArray, List.set_cons_zero, List.set_cons_succ, i64_w, i32_w]
        rfl
      refine done_ (by kernel_rfl) ?_
      try go_wp2
      have n0_ := Aside0.mk (Kd.R_drew HO248.out)
      have n1_ := Aside0.mk (Kd.R_drew HO252.out)
      have n2_ := Aside0.mk (Kd.R_drew HO256.out)
      have n3_ := Aside0.mk (Kd.R_drew HO262.out)
      have n4_ := Aside0.mk (Kd.R_drew HO267.out)
      have n5_ := Aside0.mk (Kd.R_drew HO272.out)
      have n6_ := Aside0.mk (Kd.R_drew HO279.out)
      have n7_ := Aside0.mk (blk_drew BK241.out)
      have n8_ := Aside0.mk (blk_drew BK242.out)
      have n9_ := Aside0.mk (blk_drew BK258.out)
      have n10_ := Aside0.mk (blk_drew BK263.out)
      have n11_ := Aside0.mk (blk_drew BK268.out)
      have n12_ := Aside0.mk (blk_drew BK274.out)
      have n13_ := Aside0.mk (below_drew1 HB.out)
      clear HO248 HO252 HO256 HO262 HO267 HO272 HO279 BK241 BK242 BK258 BK263 BK268 BK274 HB
      have HO248 := n0_
      have HO252 := n1_
      have HO256 := n2_
      have HO262 := n3_
      have HO267 := n4_
      have HO272 := n5_
      have HO279 := n6_
      have BK241 := n7_
      have BK242 := n8_
      have BK258 := n9_
      have BK263 := n10_
      have BK268 := n11_
      have BK274 := n12_
      have HB := n13_
      clear n0_ n1_ n2_ n3_ n4_ n5_ n6_ n7_ n8_ n9_ n10_ n11_ n12_ n13_
      refine start_ (n := 5) (S := fun w' => w'.cell? ⟨gb268, 0, none⟩ = some (.int .i64 t264) ∧ w'.cell? ⟨gb268, 1, none⟩ = some (.slice Ao88 t265.length co88) ∧ w'.cell? ⟨gb242, 0, none⟩ = some (.int .i64 a1_0) ∧ w'.cell? ⟨gb242, 1, none⟩ = some (.slice A1_1 l1_1.length c1_1)) (ds := []) #[false, false, false, false, false] (by kernel_rfl) rfl rfl ⟨(blk_cell BK268.out 0).trans rfl, (blk_cell BK268.out 1).trans rfl, (blk_cell BK242.out 0).trans rfl, (blk_cell BK242.out 1).trans rfl⟩ (fun hHeld => ?_)
      generalize w104.drew = w105 at HO248 HO252 HO256 HO262 HO267 HO272 HO279 BK241 BK242 BK258 BK263 BK268 BK274 HB hHeld ⊢
      refine take_ (i := 0) (N := some 59) (v := ?_) (a' := ?_) #[true, false, false, false, false] rfl rfl (by kernel_rfl) (fun _ _ _ h => h) (Or.inl ⟨by rfl, ?_⟩) hHeld ?_ ?_
      rotate_left
      · rintro w' ⟨s0, s1, s2, s3⟩
        go_simp
        with_reducible rfl
      rotate_left
      · simp only [Act.put, List.setIfInBounds_toArray, List.set_cons_zero, List.set_cons_succ, i64_w, i32_w]
        rfl
      refine take_ (i := 1) (N := some 60) (v := ?_) (a' := ?_) #[true, true, false, false, false] rfl rfl (by kernel_rfl) (fun _ _ _ h => h) (Or.inl ⟨by rfl, ?_⟩) hHeld ?_ ?_
      rotate_left
      · rintro w' ⟨s0, s1, s2, s3⟩
        go_simp
        with_reducible rfl
      rotate_left
      · simp only [Act.put, List.setIfInBounds_toArray, List.set_cons_zero, List.set_cons_succ, i64_w, i32_w]
        rfl
      refine one_ (i := 2) (N := some 61) #[true, true, true, false, false] rfl rfl (by kernel_rfl) (by decide) (fun K hK => ?_)
      refine goes_ Try.func21 (by kernel_rfl) rfl #[.agg #[.int .i64 a1_0, .slice A1_1 l1_1.length c1_1]] (by rfl) rfl rfl (by (try simp only [List.map_toArray, List.map_cons, List.map_nil]); first | done | rfl | (simp only [List.length_drop, List.length_take]; rfl)) ?_
      with_reducible refine (laws_toRing.calls k a1_0 _ _ l1_1 t281 t282 _ ?side1 ?side2 A31.out).mono ?_
      (case side1 => repeat (first | exact (Kd.C_below HR1_1.out HB.out) | (with_reducible refine Kd.C_alloc ?_ _) | (with_reducible refine Kd.C_drewN ?_ _) | (with_reducible refine Kd.C_drew ?_)))
      (case side2 => exact HC1_1.out)
      rintro e w106 ⟨v283, rfl, ho0, hb⟩
      refine ⟨_, rfl, ?_⟩
      have n0_ := Aside0.mk (Kd.R_elder' (rk HO248.out) (Kd.R_base ho0) hb)
      have n1_ := Aside0.mk (Kd.R_elder' (rk HO252.out) (Kd.R_base ho0) hb)
      have n2_ := Aside0.mk (Kd.R_elder' (rk HO256.out) (Kd.R_base ho0) hb)
      have n3_ := Aside0.mk (Kd.R_elder' (rk HO262.out) (Kd.R_base ho0) hb)
      have n4_ := Aside0.mk (Kd.R_elder' (rk HO267.out) (Kd.R_base ho0) hb)
      have n5_ := Aside0.mk (Kd.R_elder' (rk HO272.out) (Kd.R_base ho0) hb)
      have n6_ := Aside0.mk (Kd.R_elder' (rk HO279.out) (Kd.R_base ho0) hb)
      have n7_ := Aside0.mk (Kd.R_lower (Kd.R_new' (Kd.R_new' (Kd.R_new' (Kd.R_new' (Kd.R_new' (Kd.R_new' (Kd.R_new' ho0 (Kd.R_lt (rk HO248.out))) (Kd.R_lt (rk HO252.out))) (Kd.R_lt (rk HO256.out))) (Kd.R_lt (rk HO262.out))) (Kd.R_lt (rk HO267.out))) (Kd.R_lt (rk HO272.out))) (Kd.R_lt (rk HO279.out))) (below_size (bks HB.out)))
      have n8_ := Aside0.mk (blk_below (pk BK241.out) hb)
      have n9_ := Aside0.mk (blk_below (pk BK242.out) hb)
      have n10_ := Aside0.mk (blk_below (pk BK258.out) hb)
      have n11_ := Aside0.mk (blk_below (pk BK263.out) hb)
      have n12_ := Aside0.mk (blk_below (pk BK268.out) hb)
      have n13_ := Aside0.mk (blk_below (pk BK274.out) hb)
      have n14_ := Aside0.mk (below_step (bks HB.out) hb)
      clear HO248 HO252 HO256 HO262 HO267 HO272 HO279 BK241 BK242 BK258 BK263 BK268 BK274 HB
      have HO248 := n0_
      have HO252 := n1_
      have HO256 := n2_
      have HO262 := n3_
      have HO267 := n4_
      have HO272 := n5_
      have HO279 := n6_
      have HO284 := n7_
      have BK241 := n8_
      have BK242 := n9_
      have BK258 := n10_
      have BK263 := n11_
      have BK268 := n12_
      have BK274 := n13_
      have HB := n14_
      clear n0_ n1_ n2_ n3_ n4_ n5_ n6_ n7_ n8_ n9_ n10_ n11_ n12_ n13_ n14_
      (try clear hb)
      (try clear hb2)
      (try clear hk)
      (try clear hi)
      (try clear ho0)
      obtain ⟨Ao107, co107, eo107⟩ := Kd.R_slice HO284.out
      (first | subst eo107 | (injection eo107 with f1_ f2_ f3_; have f4_ := f1_.symm; have f5_ := f3_.symm; clear f1_ f2_ f3_; subst f4_; subst f5_))
      refine hK.out _ _ ⟨(blk_cell BK268.out 0).trans rfl, (blk_cell BK268.out 1).trans rfl, (blk_cell BK242.out 0).trans rfl, (blk_cell BK242.out 1).trans rfl⟩ (fun hHeld => ?_)
      clear hK K
      refine norm_ (a' := ?_) ?_ ?_
      rotate_left
      · show Act.put _ (some 61) _ = _
        simp only [Act.put, List.setIfInBounds_toArray, List.set_cons_zero, List.set_cons_succ, i64_w, i32_w]
        rfl
      refine one_ (i := 3) (N := some 62) #[true, true, true, true, false] rfl rfl (by kernel_rfl) (by decide) (fun K hK => ?_)
      refine goes_ Try.func14 (by kernel_rfl) rfl #[.agg #[.int .i64 t264, .slice Ao88 t265.length co88], .agg #[.int .i64 t281, .slice Ao107 t282.length co107]] (by rfl) rfl rfl (by (try simp only [List.map_toArray, List.map_cons, List.map_nil]); first | done | rfl | (simp only [List.length_drop, List.length_take]; rfl)) ?_
      with_reducible refine (laws_eqRing.calls k t264 _ _ t265 t281 _ _ t282 true _ ?side1 ?side2 ?side3 ?side4 A32.out).mono ?_
      (case side1 => repeat (first | exact (Kd.R_reads' HO267.out).2.2 | (with_reducible refine Kd.C_alloc ?_ _) | (with_reducible refine Kd.C_drewN ?_ _) | (with_reducible refine Kd.C_drew ?_)))
      (case side2 => exact (Kd.R_reads' HO267.out).2.1)
      (case side3 => repeat (first | exact (Kd.R_reads' HO284.out).2.2 | (with_reducible refine Kd.C_alloc ?_ _) | (with_reducible refine Kd.C_drewN ?_ _) | (with_reducible refine Kd.C_drew ?_)))
      (case side4 => exact (Kd.R_reads' HO284.out).2.1)
      rintro e w108 ⟨rfl, hb⟩
      refine ⟨_, rfl, ?_⟩
      have n0_ := Aside0.mk (Kd.R_below (rk HO248.out) hb)
      have n1_ := Aside0.mk (Kd.R_below (rk HO252.out) hb)
      have n2_ := Aside0.mk (Kd.R_below (rk HO256.out) hb)
      have n3_ := Aside0.mk (Kd.R_below (rk HO262.out) hb)
      have n4_ := Aside0.mk (Kd.R_below (rk HO267.out) hb)
      have n5_ := Aside0.mk (Kd.R_below (rk HO272.out) hb)
      have n6_ := Aside0.mk (Kd.R_below (rk HO279.out) hb)
      have n7_ := Aside0.mk (Kd.R_below (rk HO284.out) hb)
      have n8_ := Aside0.mk (blk_below (pk BK241.out) hb)
      have n9_ := Aside0.mk (blk_below (pk BK242.out) hb)
      have n10_ := Aside0.mk (blk_below (pk BK258.out) hb)
      have n11_ := Aside0.mk (blk_below (pk BK263.out) hb)
      have n12_ := Aside0.mk (blk_below (pk BK268.out) hb)
      have n13_ := Aside0.mk (blk_below (pk BK274.out) hb)
      have n14_ := Aside0.mk (below_step (bks HB.out) hb)
      clear HO248 HO252 HO256 HO262 HO267 HO272 HO279 HO284 BK241 BK242 BK258 BK263 BK268 BK274 HB
      have HO248 := n0_
      have HO252 := n1_
      have HO256 := n2_
      have HO262 := n3_
      have HO267 := n4_
      have HO272 := n5_
      have HO279 := n6_
      have HO284 := n7_
      have BK241 := n8_
      have BK242 := n9_
      have BK258 := n10_
      have BK263 := n11_
      have BK268 := n12_
      have BK274 := n13_
      have HB := n14_
      clear n0_ n1_ n2_ n3_ n4_ n5_ n6_ n7_ n8_ n9_ n10_ n11_ n12_ n13_ n14_
      (try clear hb)
      (try clear hb2)
      (try clear hk)
      (try clear hi)
      refine hK.out _ _ ⟨(blk_cell BK268.out 0).trans rfl, (blk_cell BK268.out 1).trans rfl, (blk_cell BK242.out 0).trans rfl, (blk_cell BK242.out 1).trans rfl⟩ (fun hHeld => ?_)
      clear hK K
      refine norm_ (a' := ?_) ?_ ?_
      rotate_left
      · show Act.put _ (some 62) _ = _
        simp only [Act.put, List.setIfInBounds_toArray, List.set_cons_zero, List.set_cons_succ, i64_w, i32_w]
        rfl
      refine pure_ (i := 4) (N := some 63) (v := ?_) (a' := ?_) #[true, true, true, true, true] rfl rfl (by kernel_rfl) (fun _ _ _ h => h) (Or.inl ⟨by rfl, ?_⟩) ?_ ?_
      rotate_left
      · intro w'
        go_simp
        with_reducible rfl
      rotate_left
      · simp only [Act.put, List.setIfInBounds_toArray, List.set_cons_zero, List.set_cons_succ, i64_w, i32_w]
        rfl
      refine done_ (by kernel_rfl) ?_
      have hcz109_0 : w108.cell? ⟨gb263, 0, none⟩ = some (.int .i64 t259) := (blk_cell BK263.out 0).trans rfl
      have hcz109_1 : w108.cell? ⟨gb263, 1, none⟩ = some (.slice Ao78 t260.length co78) := (blk_cell BK263.out 1).trans rfl
      have hfz109_0 := blk_frozen BK263.out 0
      have hfz109_1 := blk_frozen BK263.out 1
      try go_wp2_with (first | ((with_reducible refine gate_callee (f := 15) rfl ?_); refine goesL_ (some 66) rfl rfl Try.func15 (by kernel_rfl) rfl #[.agg #[.int .i64 t259, .slice Ao78 t260.length co78], .int .i64 1] rfl (by (try simp only [List.map_toArray, List.map_cons, List.map_nil]); first | done | rfl | (simp only [List.length_drop, List.length_take]; rfl)) ?_; (with_reducible refine (laws_markRing.calls k t259 (fun k_ => some k_ = (.slice Ao78 t260.length co78 : Value).ownBlock) (.slice Ao78 t260.length co78) t260 1 t286 t287 w _ ?side1 ?side2 A34.out).mono ?_); (case side1 => repeat (first | (with_reducible first | exact HB.out | apply below_alloc | apply pw_below_drewN | apply below_drew1 | refine below_set ?_ GE241.out | refine below_set ?_ GE242.out | refine below_set ?_ GE258.out | refine below_set ?_ GE263.out | refine below_set ?_ GE268.out | refine below_set ?_ GE274.out) | exact HB.out)); (case side2 => exact Kd.R_tight rfl HO262.out); rintro e w110 ⟨rfl, hy0, hb, hkp⟩; refine ⟨_, rfl, ?_⟩; have n0_ := Aside0.mk (blk_kept (pk BK241.out) hkp (fun hs_ => (fun e_ => (Kd.R_ne HO262.out BK241.out (by decide)) e_) hs_)); have n1_ := Aside0.mk (blk_kept (pk BK242.out) hkp (fun hs_ => (fun e_ => (Kd.R_ne HO262.out BK242.out (by decide)) e_) hs_)); have n2_ := Aside0.mk (Kd.R_mono (ok' := fun k_ => some k_ ≠ (v251 : Value).ownBlock ∧ some k_ ≠ (.slice Ao68 t254.length co68 : Value).ownBlock ∧ some k_ ≠ (.slice Ao78 t260.length co78 : Value).ownBlock ∧ some k_ ≠ (.slice Ao88 t265.length co88 : Value).ownBlock ∧ some k_ ≠ (.slice Ao98 t270.length co98 : Value).ownBlock ∧ some k_ ≠ (.slice Ao103 t277.length co103 : Value).ownBlock ∧ some k_ ≠ (.slice Ao107 t282.length co107 : Value).ownBlock) (Kd.R_keptB (HO248.out) hkp (fun k_ hk_ hs_ => (hk_.1.1.1.1.2) hs_)) (fun k_ hk_ => ⟨hk_.1.1.1.1.1.1.1, hk_.1.1.1.1.1.1.2, hk_.1.1.1.1.1.2, hk_.1.1.1.1.2, hk_.1.1.1.2, hk_.1.1.2, hk_.1.2⟩)); have n3_ := Aside0.mk (Kd.R_mono (ok' := fun k_ => some k_ ≠ (v247 : Value).ownBlock ∧ some k_ ≠ (.slice Ao68 t254.length co68 : Value).ownBlock ∧ some k_ ≠ (.slice Ao78 t260.length co78 : Value).ownBlock ∧ some k_ ≠ (.slice Ao88 t265.length co88 : Value).ownBlock ∧ some k_ ≠ (.slice Ao98 t270.length co98 : Value).ownBlock ∧ some k_ ≠ (.slice Ao103 t277.length co103 : Value).ownBlock ∧ some k_ ≠ (.slice Ao107 t282.length co107 : Value).ownBlock) (Kd.R_keptB (HO252.out) hkp (fun k_ hk_ hs_ => (hk_.1.1.1.1.2) hs_)) (fun k_ hk_ => ⟨hk_.1.1.1.1.1.1.1, hk_.1.1.1.1.1.1.2, hk_.1.1.1.1.1.2, hk_.1.1.1.1.2, hk_.1.1.1.2, hk_.1.1.2, hk_.1.2⟩)); have n4_ := Aside0.mk (Kd.R_mono (ok' := fun k_ => some k_ ≠ (v247 : Value).ownBlock ∧ some k_ ≠ (v251 : Value).ownBlock ∧ some k_ ≠ (.slice Ao78 t260.length co78 : Value).ownBlock ∧ some k_ ≠ (.slice Ao88 t265.length co88 : Value).ownBlock ∧ some k_ ≠ (.slice Ao98 t270.length co98 : Value).ownBlock ∧ some k_ ≠ (.slice Ao103 t277.length co103 : Value).ownBlock ∧ some k_ ≠ (.slice Ao107 t282.length co107 : Value).ownBlock) (Kd.R_keptB (HO256.out) hkp (fun k_ hk_ hs_ => (hk_.1.1.1.1.2) hs_)) (fun k_ hk_ => ⟨hk_.1.1.1.1.1.1.1, hk_.1.1.1.1.1.1.2, hk_.1.1.1.1.1.2, hk_.1.1.1.1.2, hk_.1.1.1.2, hk_.1.1.2, hk_.1.2⟩)); have n5_ := Aside0.mk (blk_kept (pk BK258.out) hkp (fun hs_ => (fun e_ => (Kd.R_ne HO262.out BK258.out (by decide)) e_) hs_)); have n6_ := Aside0.mk (Kd.R_reok rfl hy0 (fun k_ e_ => HO262.out.1 k_ e_)); have n7_ := Aside0.mk (blk_kept (pk BK263.out) hkp (fun hs_ => (fun e_ => (Kd.R_ne HO262.out BK263.out (by decide)) e_) hs_)); have n8_ := Aside0.mk (Kd.R_mono (ok' := fun k_ => some k_ ≠ (v247 : Value).ownBlock ∧ some k_ ≠ (v251 : Value).ownBlock ∧ some k_ ≠ (.slice Ao68 t254.length co68 : Value).ownBlock ∧ some k_ ≠ (.slice Ao78 t260.length co78 : Value).ownBlock ∧ some k_ ≠ (.slice Ao98 t270.length co98 : Value).ownBlock ∧ some k_ ≠ (.slice Ao103 t277.length co103 : Value).ownBlock ∧ some k_ ≠ (.slice Ao107 t282.length co107 : Value).ownBlock) (Kd.R_keptB (HO267.out) hkp (fun k_ hk_ hs_ => (hk_.1.1.1.2) hs_)) (fun k_ hk_ => ⟨hk_.1.1.1.1.1.1.1.2, hk_.1.1.1.1.1.1.2, hk_.1.1.1.1.1.2, hk_.1.1.1.1.2, hk_.1.1.1.2, hk_.1.1.2, hk_.1.2⟩)); have n9_ := Aside0.mk (blk_kept (pk BK268.out) hkp (fun hs_ => (fun e_ => (Kd.R_ne HO262.out BK268.out (by decide)) e_) hs_)); have n10_ := Aside0.mk (Kd.R_mono (ok' := fun k_ => some k_ ≠ (v247 : Value).ownBlock ∧ some k_ ≠ (v251 : Value).ownBlock ∧ some k_ ≠ (.slice Ao68 t254.length co68 : Value).ownBlock ∧ some k_ ≠ (.slice Ao78 t260.length co78 : Value).ownBlock ∧ some k_ ≠ (.slice Ao88 t265.length co88 : Value).ownBlock ∧ some k_ ≠ (.slice Ao103 t277.length co103 : Value).ownBlock ∧ some k_ ≠ (.slice Ao107 t282.length co107 : Value).ownBlock) (Kd.R_keptB (HO272.out) hkp (fun k_ hk_ hs_ => (hk_.1.1.1.2) hs_)) (fun k_ hk_ => ⟨hk_.1.1.1.1.1.1.1.2, hk_.1.1.1.1.1.1.2, hk_.1.1.1.1.1.2, hk_.1.1.1.1.2, hk_.1.1.1.2, hk_.1.1.2, hk_.1.2⟩)); have n11_ := Aside0.mk (blk_kept (pk BK274.out) hkp (fun hs_ => (fun e_ => (Kd.R_ne HO262.out BK274.out (by decide)) e_) hs_)); have n12_ := Aside0.mk (Kd.R_mono (ok' := fun k_ => some k_ ≠ (v247 : Value).ownBlock ∧ some k_ ≠ (v251 : Value).ownBlock ∧ some k_ ≠ (.slice Ao68 t254.length co68 : Value).ownBlock ∧ some k_ ≠ (.slice Ao78 t260.length co78 : Value).ownBlock ∧ some k_ ≠ (.slice Ao88 t265.length co88 : Value).ownBlock ∧ some k_ ≠ (.slice Ao98 t270.length co98 : Value).ownBlock ∧ some k_ ≠ (.slice Ao107 t282.length co107 : Value).ownBlock) (Kd.R_keptB (HO279.out) hkp (fun k_ hk_ hs_ => (hk_.1.1.1.2) hs_)) (fun k_ hk_ => ⟨hk_.1.1.1.1.1.1.1.2, hk_.1.1.1.1.1.1.2, hk_.1.1.1.1.1.2, hk_.1.1.1.1.2, hk_.1.1.1.2, hk_.1.1.2, hk_.1.2⟩)); have n13_ := Aside0.mk (Kd.R_mono (ok' := fun k_ => some k_ ≠ (v247 : Value).ownBlock ∧ some k_ ≠ (v251 : Value).ownBlock ∧ some k_ ≠ (.slice Ao68 t254.length co68 : Value).ownBlock ∧ some k_ ≠ (.slice Ao78 t260.length co78 : Value).ownBlock ∧ some k_ ≠ (.slice Ao88 t265.length co88 : Value).ownBlock ∧ some k_ ≠ (.slice Ao98 t270.length co98 : Value).ownBlock ∧ some k_ ≠ (.slice Ao103 t277.length co103 : Value).ownBlock) (Kd.R_keptB (HO284.out) hkp (fun k_ hk_ hs_ => (hk_.1.1.1.2) hs_)) (fun k_ hk_ => ⟨hk_.1.1.1.1.1.1.1.2, hk_.1.1.1.1.1.1.2, hk_.1.1.1.1.1.2, hk_.1.1.1.1.2, hk_.1.1.1.2, hk_.1.1.2, hk_.1.2⟩)); have n14_ := Aside0.mk (hb); clear BK241; clear BK242; clear HO248; clear HO252; clear HO256; clear BK258; clear HO262; clear BK263; clear HO267; clear BK268; clear HO272; clear BK274; clear HO279; clear HO284; clear HB; have BK241 := n0_; have BK242 := n1_; have HO248 := n2_; have HO252 := n3_; have HO256 := n4_; have BK258 := n5_; have HO262 := n6_; have BK263 := n7_; have HO267 := n8_; have BK268 := n9_; have HO272 := n10_; have BK274 := n11_; have HO279 := n12_; have HO284 := n13_; have HB := n14_; clear n0_ n1_ n2_ n3_ n4_ n5_ n6_ n7_ n8_ n9_ n10_ n11_ n12_ n13_ n14_; (try clear hb); (try clear hkp); (try clear hy0); have hcz111_0 : w110.cell? ⟨gb268, 0, none⟩ = some (.int .i64 t264) := (blk_cell BK268.out 0).trans rfl; have hcz111_1 : w110.cell? ⟨gb268, 1, none⟩ = some (.slice Ao88 t265.length co88) := (blk_cell BK268.out 1).trans rfl; have hfz111_0 := blk_frozen BK268.out 0; have hfz111_1 := blk_frozen BK268.out 1) | ((with_reducible refine gate_callee (f := 15) rfl ?_); refine goesL_ (some 69) rfl rfl Try.func15 (by kernel_rfl) rfl #[.agg #[.int .i64 t264, .slice Ao88 t265.length co88], .int .i64 t286] rfl (by (try simp only [List.map_toArray, List.map_cons, List.map_nil]); first | done | rfl | (simp only [List.length_drop, List.length_take]; rfl)) ?_; (with_reducible refine (laws_markRing.calls k t264 (fun k_ => some k_ = (.slice Ao88 t265.length co88 : Value).ownBlock) (.slice Ao88 t265.length co88) t265 t286 t288 t289 w _ ?side1 ?side2 A35.out).mono ?_); (case side1 => repeat (first | (with_reducible first | exact HB.out | apply below_alloc | apply pw_below_drewN | apply below_drew1 | refine below_set ?_ GE241.out | refine below_set ?_ GE242.out | refine below_set ?_ GE258.out | refine below_set ?_ GE263.out | refine below_set ?_ GE268.out | refine below_set ?_ GE274.out) | exact HB.out)); (case side2 => exact Kd.R_tight rfl HO267.out); rintro e w112 ⟨rfl, hy0, hb, hkp⟩; refine ⟨_, rfl, ?_⟩; have n0_ := Aside0.mk (blk_kept (pk BK241.out) hkp (fun hs_ => (fun e_ => (Kd.R_ne HO267.out BK241.out (by decide)) e_) hs_)); have n1_ := Aside0.mk (blk_kept (pk BK242.out) hkp (fun hs_ => (fun e_ => (Kd.R_ne HO267.out BK242.out (by decide)) e_) hs_)); have n2_ := Aside0.mk (Kd.R_mono (ok' := fun k_ => some k_ ≠ (v251 : Value).ownBlock ∧ some k_ ≠ (.slice Ao68 t254.length co68 : Value).ownBlock ∧ some k_ ≠ (.slice Ao78 t260.length co78 : Value).ownBlock ∧ some k_ ≠ (.slice Ao88 t265.length co88 : Value).ownBlock ∧ some k_ ≠ (.slice Ao98 t270.length co98 : Value).ownBlock ∧ some k_ ≠ (.slice Ao103 t277.length co103 : Value).ownBlock ∧ some k_ ≠ (.slice Ao107 t282.length co107 : Value).ownBlock) (Kd.R_keptB (HO248.out) hkp (fun k_ hk_ hs_ => (hk_.2.2.2.1) hs_)) (fun k_ hk_ => ⟨hk_.1.1, hk_.1.2.1, hk_.1.2.2.1, hk_.1.2.2.2.1, hk_.1.2.2.2.2.1, hk_.1.2.2.2.2.2.1, hk_.1.2.2.2.2.2.2⟩)); have n3_ := Aside0.mk (Kd.R_mono (ok' := fun k_ => some k_ ≠ (v247 : Value).ownBlock ∧ some k_ ≠ (.slice Ao68 t254.length co68 : Value).ownBlock ∧ some k_ ≠ (.slice Ao78 t260.length co78 : Value).ownBlock ∧ some k_ ≠ (.slice Ao88 t265.length co88 : Value).ownBlock ∧ some k_ ≠ (.slice Ao98 t270.length co98 : Value).ownBlock ∧ some k_ ≠ (.slice Ao103 t277.length co103 : Value).ownBlock ∧ some k_ ≠ (.slice Ao107 t282.length co107 : Value).ownBlock) (Kd.R_keptB (HO252.out) hkp (fun k_ hk_ hs_ => (hk_.2.2.2.1) hs_)) (fun k_ hk_ => ⟨hk_.1.1, hk_.1.2.1, hk_.1.2.2.1, hk_.1.2.2.2.1, hk_.1.2.2.2.2.1, hk_.1.2.2.2.2.2.1, hk_.1.2.2.2.2.2.2⟩)); have n4_ := Aside0.mk (Kd.R_mono (ok' := fun k_ => some k_ ≠ (v247 : Value).ownBlock ∧ some k_ ≠ (v251 : Value).ownBlock ∧ some k_ ≠ (.slice Ao78 t260.length co78 : Value).ownBlock ∧ some k_ ≠ (.slice Ao88 t265.length co88 : Value).ownBlock ∧ some k_ ≠ (.slice Ao98 t270.length co98 : Value).ownBlock ∧ some k_ ≠ (.slice Ao103 t277.length co103 : Value).ownBlock ∧ some k_ ≠ (.slice Ao107 t282.length co107 : Value).ownBlock) (Kd.R_keptB (HO256.out) hkp (fun k_ hk_ hs_ => (hk_.2.2.2.1) hs_)) (fun k_ hk_ => ⟨hk_.1.1, hk_.1.2.1, hk_.1.2.2.1, hk_.1.2.2.2.1, hk_.1.2.2.2.2.1, hk_.1.2.2.2.2.2.1, hk_.1.2.2.2.2.2.2⟩)); have n5_ := Aside0.mk (blk_kept (pk BK258.out) hkp (fun hs_ => (fun e_ => (Kd.R_ne HO267.out BK258.out (by decide)) e_) hs_)); have n6_ := Aside0.mk (Kd.R_mono (ok' := fun k_ => some k_ ≠ (v247 : Value).ownBlock ∧ some k_ ≠ (v251 : Value).ownBlock ∧ some k_ ≠ (.slice Ao68 t254.length co68 : Value).ownBlock ∧ some k_ ≠ (.slice Ao88 t265.length co88 : Value).ownBlock ∧ some k_ ≠ (.slice Ao98 t270.length co98 : Value).ownBlock ∧ some k_ ≠ (.slice Ao103 t277.length co103 : Value).ownBlock ∧ some k_ ≠ (.slice Ao107 t282.length co107 : Value).ownBlock) (Kd.R_keptB (HO262.out) hkp (fun k_ hk_ hs_ => (hk_.1.1.1.2) hs_)) (fun k_ hk_ => ⟨hk_.1.1.1.1.1.1.1.2, hk_.1.1.1.1.1.1.2, hk_.1.1.1.1.1.2, hk_.1.1.1.1.2, hk_.1.1.1.2, hk_.1.1.2, hk_.1.2⟩)); have n7_ := Aside0.mk (blk_kept (pk BK263.out) hkp (fun hs_ => (fun e_ => (Kd.R_ne HO267.out BK263.out (by decide)) e_) hs_)); have n8_ := Aside0.mk (Kd.R_reok rfl hy0 (fun k_ e_ => HO267.out.1 k_ e_)); have n9_ := Aside0.mk (blk_kept (pk BK268.out) hkp (fun hs_ => (fun e_ => (Kd.R_ne HO267.out BK268.out (by decide)) e_) hs_)); have n10_ := Aside0.mk (Kd.R_mono (ok' := fun k_ => some k_ ≠ (v247 : Value).ownBlock ∧ some k_ ≠ (v251 : Value).ownBlock ∧ some k_ ≠ (.slice Ao68 t254.length co68 : Value).ownBlock ∧ some k_ ≠ (.slice Ao78 t260.length co78 : Value).ownBlock ∧ some k_ ≠ (.slice Ao88 t265.length co88 : Value).ownBlock ∧ some k_ ≠ (.slice Ao103 t277.length co103 : Value).ownBlock ∧ some k_ ≠ (.slice Ao107 t282.length co107 : Value).ownBlock) (Kd.R_keptB (HO272.out) hkp (fun k_ hk_ hs_ => (hk_.2.2.2.2.1) hs_)) (fun k_ hk_ => ⟨hk_.1.1, hk_.1.2.1, hk_.1.2.2.1, hk_.1.2.2.2.1, hk_.1.2.2.2.2.1, hk_.1.2.2.2.2.2.1, hk_.1.2.2.2.2.2.2⟩)); have n11_ := Aside0.mk (blk_kept (pk BK274.out) hkp (fun hs_ => (fun e_ => (Kd.R_ne HO267.out BK274.out (by decide)) e_) hs_)); have n12_ := Aside0.mk (Kd.R_mono (ok' := fun k_ => some k_ ≠ (v247 : Value).ownBlock ∧ some k_ ≠ (v251 : Value).ownBlock ∧ some k_ ≠ (.slice Ao68 t254.length co68 : Value).ownBlock ∧ some k_ ≠ (.slice Ao78 t260.length co78 : Value).ownBlock ∧ some k_ ≠ (.slice Ao88 t265.length co88 : Value).ownBlock ∧ some k_ ≠ (.slice Ao98 t270.length co98 : Value).ownBlock ∧ some k_ ≠ (.slice Ao107 t282.length co107 : Value).ownBlock) (Kd.R_keptB (HO279.out) hkp (fun k_ hk_ hs_ => (hk_.2.2.2.2.1) hs_)) (fun k_ hk_ => ⟨hk_.1.1, hk_.1.2.1, hk_.1.2.2.1, hk_.1.2.2.2.1, hk_.1.2.2.2.2.1, hk_.1.2.2.2.2.2.1, hk_.1.2.2.2.2.2.2⟩)); have n13_ := Aside0.mk (Kd.R_mono (ok' := fun k_ => some k_ ≠ (v247 : Value).ownBlock ∧ some k_ ≠ (v251 : Value).ownBlock ∧ some k_ ≠ (.slice Ao68 t254.length co68 : Value).ownBlock ∧ some k_ ≠ (.slice Ao78 t260.length co78 : Value).ownBlock ∧ some k_ ≠ (.slice Ao88 t265.length co88 : Value).ownBlock ∧ some k_ ≠ (.slice Ao98 t270.length co98 : Value).ownBlock ∧ some k_ ≠ (.slice Ao103 t277.length co103 : Value).ownBlock) (Kd.R_keptB (HO284.out) hkp (fun k_ hk_ hs_ => (hk_.2.2.2.2.1) hs_)) (fun k_ hk_ => ⟨hk_.1.1, hk_.1.2.1, hk_.1.2.2.1, hk_.1.2.2.2.1, hk_.1.2.2.2.2.1, hk_.1.2.2.2.2.2.1, hk_.1.2.2.2.2.2.2⟩)); have n14_ := Aside0.mk (hb); clear BK241; clear BK242; clear HO248; clear HO252; clear HO256; clear BK258; clear HO262; clear BK263; clear HO267; clear BK268; clear HO272; clear BK274; clear HO279; clear HO284; clear HB; have BK241 := n0_; have BK242 := n1_; have HO248 := n2_; have HO252 := n3_; have HO256 := n4_; have BK258 := n5_; have HO262 := n6_; have BK263 := n7_; have HO267 := n8_; have BK268 := n9_; have HO272 := n10_; have BK274 := n11_; have HO279 := n12_; have HO284 := n13_; have HB := n14_; clear n0_ n1_ n2_ n3_ n4_ n5_ n6_ n7_ n8_ n9_ n10_ n11_ n12_ n13_ n14_; (try clear hb); (try clear hkp); (try clear hy0); have hcz113_0 : w112.cell? ⟨gb274, 0, none⟩ = some (.int .i64 t269) := (blk_cell BK274.out 0).trans rfl; have hcz113_1 : w112.cell? ⟨gb274, 1, none⟩ = some (.slice Ao98 t270.length co98) := (blk_cell BK274.out 1).trans rfl; have hfz113_0 := blk_frozen BK274.out 0; have hfz113_1 := blk_frozen BK274.out 1; have hcz114_0 : w112.cell? ⟨gb258, 0, none⟩ = some (.int .i64 t253) := (blk_cell BK258.out 0).trans rfl; have hcz114_1 : w112.cell? ⟨gb258, 1, none⟩ = some (.slice Ao68 t254.length co68) := (blk_cell BK258.out 1).trans rfl; have hfz114_0 := blk_frozen BK258.out 0; have hfz114_1 := blk_frozen BK258.out 1) | (go_at_call 14; (with_reducible refine (laws_eqRing.calls k t269 _ _ t270 t253 _ _ t254 true _ ?side1 ?side2 ?side3 ?side4 A37.out).mono ?_); (case side1 => repeat (first | exact (Kd.R_reads' HO272.out).2.2 | (with_reducible refine Kd.C_alloc ?_ _) | (with_reducible refine Kd.C_drewN ?_ _) | (with_reducible refine Kd.C_drew ?_))); (case side2 => exact (Kd.R_reads' HO272.out).2.1); (case side3 => repeat (first | exact (Kd.R_reads' HO256.out).2.2 | (with_reducible refine Kd.C_alloc ?_ _) | (with_reducible refine Kd.C_drewN ?_ _) | (with_reducible refine Kd.C_drew ?_))); (case side4 => exact (Kd.R_reads' HO256.out).2.1); rintro e w115 ⟨rfl, hb⟩; have n0_ := Aside0.mk (Kd.R_below (rk HO248.out) hb); have n1_ := Aside0.mk (Kd.R_below (rk HO252.out) hb); have n2_ := Aside0.mk (Kd.R_below (rk HO256.out) hb); have n3_ := Aside0.mk (Kd.R_below (rk HO262.out) hb); have n4_ := Aside0.mk (Kd.R_below (rk HO267.out) hb); have n5_ := Aside0.mk (Kd.R_below (rk HO272.out) hb); have n6_ := Aside0.mk (Kd.R_below (rk HO279.out) hb); have n7_ := Aside0.mk (Kd.R_below (rk HO284.out) hb); have n8_ := Aside0.mk (blk_below (pk BK241.out) hb); have n9_ := Aside0.mk (blk_below (pk BK242.out) hb); have n10_ := Aside0.mk (blk_below (pk BK258.out) hb); have n11_ := Aside0.mk (blk_below (pk BK263.out) hb); have n12_ := Aside0.mk (blk_below (pk BK268.out) hb); have n13_ := Aside0.mk (blk_below (pk BK274.out) hb); have n14_ := Aside0.mk (below_step (bks HB.out) hb); clear HO248; clear HO252; clear HO256; clear HO262; clear HO267; clear HO272; clear HO279; clear HO284; clear BK241; clear BK242; clear BK258; clear BK263; clear BK268; clear BK274; clear HB; have HO248 := n0_; have HO252 := n1_; have HO256 := n2_; have HO262 := n3_; have HO267 := n4_; have HO272 := n5_; have HO279 := n6_; have HO284 := n7_; have BK241 := n8_; have BK242 := n9_; have BK258 := n10_; have BK263 := n11_; have BK268 := n12_; have BK274 := n13_; have HB := n14_; clear n0_ n1_ n2_ n3_ n4_ n5_ n6_ n7_ n8_ n9_ n10_ n11_ n12_ n13_ n14_; (try clear hb); (try clear hb2); (try clear hk); (try clear hi); have hcz116_0 : w115.cell? ⟨gb274, 0, none⟩ = some (.int .i64 t269) := (blk_cell BK274.out 0).trans rfl; have hcz116_1 : w115.cell? ⟨gb274, 1, none⟩ = some (.slice Ao98 t270.length co98) := (blk_cell BK274.out 1).trans rfl; have hfz116_0 := blk_frozen BK274.out 0; have hfz116_1 := blk_frozen BK274.out 1) | ((with_reducible refine gate_callee (f := 15) rfl ?_); refine goesL_ (some 85) rfl rfl Try.func15 (by kernel_rfl) rfl #[.agg #[.int .i64 t269, .slice Ao98 t270.length co98], .int .i64 1] rfl (by (try simp only [List.map_toArray, List.map_cons, List.map_nil]); first | done | rfl | (simp only [List.length_drop, List.length_take]; rfl)) ?_; (with_reducible refine (laws_markRing.calls k t269 (fun k_ => some k_ = (.slice Ao98 t270.length co98 : Value).ownBlock) (.slice Ao98 t270.length co98) t270 1 t291 t292 w _ ?side1 ?side2 A39.out).mono ?_); (case side1 => repeat (first | (with_reducible first | exact HB.out | apply below_alloc | apply pw_below_drewN | apply below_drew1 | refine below_set ?_ GE241.out | refine below_set ?_ GE242.out | refine below_set ?_ GE258.out | refine below_set ?_ GE263.out | refine below_set ?_ GE268.out | refine below_set ?_ GE274.out) | exact HB.out)); (case side2 => exact Kd.R_tight rfl HO272.out); rintro e w117 ⟨rfl, hy0, hb, hkp⟩; refine ⟨_, rfl, ?_⟩; have n0_ := Aside0.mk (blk_kept (pk BK241.out) hkp (fun hs_ => (fun e_ => (Kd.R_ne HO272.out BK241.out (by decide)) e_) hs_)); have n1_ := Aside0.mk (blk_kept (pk BK242.out) hkp (fun hs_ => (fun e_ => (Kd.R_ne HO272.out BK242.out (by decide)) e_) hs_)); have n2_ := Aside0.mk (Kd.R_mono (ok' := fun k_ => some k_ ≠ (v251 : Value).ownBlock ∧ some k_ ≠ (.slice Ao68 t254.length co68 : Value).ownBlock ∧ some k_ ≠ (.slice Ao78 t260.length co78 : Value).ownBlock ∧ some k_ ≠ (.slice Ao88 t265.length co88 : Value).ownBlock ∧ some k_ ≠ (.slice Ao98 t270.length co98 : Value).ownBlock ∧ some k_ ≠ (.slice Ao103 t277.length co103 : Value).ownBlock ∧ some k_ ≠ (.slice Ao107 t282.length co107 : Value).ownBlock) (Kd.R_keptB (HO248.out) hkp (fun k_ hk_ hs_ => (hk_.2.2.2.2.1) hs_)) (fun k_ hk_ => ⟨hk_.1.1, hk_.1.2.1, hk_.1.2.2.1, hk_.1.2.2.2.1, hk_.1.2.2.2.2.1, hk_.1.2.2.2.2.2.1, hk_.1.2.2.2.2.2.2⟩)); have n3_ := Aside0.mk (Kd.R_mono (ok' := fun k_ => some k_ ≠ (v247 : Value).ownBlock ∧ some k_ ≠ (.slice Ao68 t254.length co68 : Value).ownBlock ∧ some k_ ≠ (.slice Ao78 t260.length co78 : Value).ownBlock ∧ some k_ ≠ (.slice Ao88 t265.length co88 : Value).ownBlock ∧ some k_ ≠ (.slice Ao98 t270.length co98 : Value).ownBlock ∧ some k_ ≠ (.slice Ao103 t277.length co103 : Value).ownBlock ∧ some k_ ≠ (.slice Ao107 t282.length co107 : Value).ownBlock) (Kd.R_keptB (HO252.out) hkp (fun k_ hk_ hs_ => (hk_.2.2.2.2.1) hs_)) (fun k_ hk_ => ⟨hk_.1.1, hk_.1.2.1, hk_.1.2.2.1, hk_.1.2.2.2.1, hk_.1.2.2.2.2.1, hk_.1.2.2.2.2.2.1, hk_.1.2.2.2.2.2.2⟩)); have n4_ := Aside0.mk (Kd.R_mono (ok' := fun k_ => some k_ ≠ (v247 : Value).ownBlock ∧ some k_ ≠ (v251 : Value).ownBlock ∧ some k_ ≠ (.slice Ao78 t260.length co78 : Value).ownBlock ∧ some k_ ≠ (.slice Ao88 t265.length co88 : Value).ownBlock ∧ some k_ ≠ (.slice Ao98 t270.length co98 : Value).ownBlock ∧ some k_ ≠ (.slice Ao103 t277.length co103 : Value).ownBlock ∧ some k_ ≠ (.slice Ao107 t282.length co107 : Value).ownBlock) (Kd.R_keptB (HO256.out) hkp (fun k_ hk_ hs_ => (hk_.2.2.2.2.1) hs_)) (fun k_ hk_ => ⟨hk_.1.1, hk_.1.2.1, hk_.1.2.2.1, hk_.1.2.2.2.1, hk_.1.2.2.2.2.1, hk_.1.2.2.2.2.2.1, hk_.1.2.2.2.2.2.2⟩)); have n5_ := Aside0.mk (blk_kept (pk BK258.out) hkp (fun hs_ => (fun e_ => (Kd.R_ne HO272.out BK258.out (by decide)) e_) hs_)); have n6_ := Aside0.mk (Kd.R_mono (ok' := fun k_ => some k_ ≠ (v247 : Value).ownBlock ∧ some k_ ≠ (v251 : Value).ownBlock ∧ some k_ ≠ (.slice Ao68 t254.length co68 : Value).ownBlock ∧ some k_ ≠ (.slice Ao88 t265.length co88 : Value).ownBlock ∧ some k_ ≠ (.slice Ao98 t270.length co98 : Value).ownBlock ∧ some k_ ≠ (.slice Ao103 t277.length co103 : Value).ownBlock ∧ some k_ ≠ (.slice Ao107 t282.length co107 : Value).ownBlock) (Kd.R_keptB (HO262.out) hkp (fun k_ hk_ hs_ => (hk_.2.2.2.2.1) hs_)) (fun k_ hk_ => ⟨hk_.1.1, hk_.1.2.1, hk_.1.2.2.1, hk_.1.2.2.2.1, hk_.1.2.2.2.2.1, hk_.1.2.2.2.2.2.1, hk_.1.2.2.2.2.2.2⟩)); have n7_ := Aside0.mk (blk_kept (pk BK263.out) hkp (fun hs_ => (fun e_ => (Kd.R_ne HO272.out BK263.out (by decide)) e_) hs_)); have n8_ := Aside0.mk (Kd.R_mono (ok' := fun k_ => some k_ ≠ (v247 : Value).ownBlock ∧ some k_ ≠ (v251 : Value).ownBlock ∧ some k_ ≠ (.slice Ao68 t254.length co68 : Value).ownBlock ∧ some k_ ≠ (.slice Ao78 t260.length co78 : Value).ownBlock ∧ some k_ ≠ (.slice Ao98 t270.length co98 : Value).ownBlock ∧ some k_ ≠ (.slice Ao103 t277.length co103 : Value).ownBlock ∧ some k_ ≠ (.slice Ao107 t282.length co107 : Value).ownBlock) (Kd.R_keptB (HO267.out) hkp (fun k_ hk_ hs_ => (hk_.2.2.2.2.1) hs_)) (fun k_ hk_ => ⟨hk_.1.1, hk_.1.2.1, hk_.1.2.2.1, hk_.1.2.2.2.1, hk_.1.2.2.2.2.1, hk_.1.2.2.2.2.2.1, hk_.1.2.2.2.2.2.2⟩)); have n9_ := Aside0.mk (blk_kept (pk BK268.out) hkp (fun hs_ => (fun e_ => (Kd.R_ne HO272.out BK268.out (by decide)) e_) hs_)); have n10_ := Aside0.mk (Kd.R_reok rfl hy0 (fun k_ e_ => HO272.out.1 k_ e_)); have n11_ := Aside0.mk (blk_kept (pk BK274.out) hkp (fun hs_ => (fun e_ => (Kd.R_ne HO272.out BK274.out (by decide)) e_) hs_)); have n12_ := Aside0.mk (Kd.R_mono (ok' := fun k_ => some k_ ≠ (v247 : Value).ownBlock ∧ some k_ ≠ (v251 : Value).ownBlock ∧ some k_ ≠ (.slice Ao68 t254.length co68 : Value).ownBlock ∧ some k_ ≠ (.slice Ao78 t260.length co78 : Value).ownBlock ∧ some k_ ≠ (.slice Ao88 t265.length co88 : Value).ownBlock ∧ some k_ ≠ (.slice Ao98 t270.length co98 : Value).ownBlock ∧ some k_ ≠ (.slice Ao107 t282.length co107 : Value).ownBlock) (Kd.R_keptB (HO279.out) hkp (fun k_ hk_ hs_ => (hk_.2.2.2.2.2.1) hs_)) (fun k_ hk_ => ⟨hk_.1.1, hk_.1.2.1, hk_.1.2.2.1, hk_.1.2.2.2.1, hk_.1.2.2.2.2.1, hk_.1.2.2.2.2.2.1, hk_.1.2.2.2.2.2.2⟩)); have n13_ := Aside0.mk (Kd.R_mono (ok' := fun k_ => some k_ ≠ (v247 : Value).ownBlock ∧ some k_ ≠ (v251 : Value).ownBlock ∧ some k_ ≠ (.slice Ao68 t254.length co68 : Value).ownBlock ∧ some k_ ≠ (.slice Ao78 t260.length co78 : Value).ownBlock ∧ some k_ ≠ (.slice Ao88 t265.length co88 : Value).ownBlock ∧ some k_ ≠ (.slice Ao98 t270.length co98 : Value).ownBlock ∧ some k_ ≠ (.slice Ao103 t277.length co103 : Value).ownBlock) (Kd.R_keptB (HO284.out) hkp (fun k_ hk_ hs_ => (hk_.2.2.2.2.2.1) hs_)) (fun k_ hk_ => ⟨hk_.1.1, hk_.1.2.1, hk_.1.2.2.1, hk_.1.2.2.2.1, hk_.1.2.2.2.2.1, hk_.1.2.2.2.2.2.1, hk_.1.2.2.2.2.2.2⟩)); have n14_ := Aside0.mk (hb); clear BK241; clear BK242; clear HO248; clear HO252; clear HO256; clear BK258; clear HO262; clear BK263; clear HO267; clear BK268; clear HO272; clear BK274; clear HO279; clear HO284; clear HB; have BK241 := n0_; have BK242 := n1_; have HO248 := n2_; have HO252 := n3_; have HO256 := n4_; have BK258 := n5_; have HO262 := n6_; have BK263 := n7_; have HO267 := n8_; have BK268 := n9_; have HO272 := n10_; have BK274 := n11_; have HO279 := n12_; have HO284 := n13_; have HB := n14_; clear n0_ n1_ n2_ n3_ n4_ n5_ n6_ n7_ n8_ n9_ n10_ n11_ n12_ n13_ n14_; (try clear hb); (try clear hkp); (try clear hy0); have hcz118_0 : w117.cell? ⟨gb274, 0, none⟩ = some (.int .i64 t269) := (blk_cell BK274.out 0).trans rfl; have hcz118_1 : w117.cell? ⟨gb274, 1, none⟩ = some (.slice Ao98 t270.length co98) := (blk_cell BK274.out 1).trans rfl; have hfz118_0 := blk_frozen BK274.out 0; have hfz118_1 := blk_frozen BK274.out 1) | ((with_reducible refine gate_callee (f := 16) rfl ?_); refine goesL_ (some 88) rfl rfl Try.func16 (by kernel_rfl) rfl #[.agg #[.int .i64 t269, .slice Ao98 t292.length co98], .int .i64 1] rfl (by (try simp only [List.map_toArray, List.map_cons, List.map_nil]); first | done | (rw [show t292.length = t270.length from (Kd.R_reads' HO272.out).1.symm] <;> rfl) | rfl | (simp only [List.length_drop, List.length_take]; rfl)) ?_; (with_reducible refine (laws_heldRing.calls k t269 _ _ t292 1 t293 _ ?side1 ?side2 A40.out).mono ?_); (case side1 => repeat (first | exact (Kd.R_reads' HO272.out).2.2 | (with_reducible refine Kd.C_alloc ?_ _) | (with_reducible refine Kd.C_drewN ?_ _) | (with_reducible refine Kd.C_drew ?_))); (case side2 => rw [show t292.length = t270.length from (Kd.R_reads' HO272.out).1.symm]; exact (Kd.R_reads' HO272.out).2.1); rintro e w119 ⟨rfl, hb⟩; refine ⟨_, rfl, ?_⟩; have n0_ := Aside0.mk (Kd.R_below (rk HO248.out) hb); have n1_ := Aside0.mk (Kd.R_below (rk HO252.out) hb); have n2_ := Aside0.mk (Kd.R_below (rk HO256.out) hb); have n3_ := Aside0.mk (Kd.R_below (rk HO262.out) hb); have n4_ := Aside0.mk (Kd.R_below (rk HO267.out) hb); have n5_ := Aside0.mk (Kd.R_below (rk HO272.out) hb); have n6_ := Aside0.mk (Kd.R_below (rk HO279.out) hb); have n7_ := Aside0.mk (Kd.R_below (rk HO284.out) hb); have n8_ := Aside0.mk (blk_below (pk BK241.out) hb); have n9_ := Aside0.mk (blk_below (pk BK242.out) hb); have n10_ := Aside0.mk (blk_below (pk BK258.out) hb); have n11_ := Aside0.mk (blk_below (pk BK263.out) hb); have n12_ := Aside0.mk (blk_below (pk BK268.out) hb); have n13_ := Aside0.mk (blk_below (pk BK274.out) hb); have n14_ := Aside0.mk (below_step (bks HB.out) hb); clear HO248; clear HO252; clear HO256; clear HO262; clear HO267; clear HO272; clear HO279; clear HO284; clear BK241; clear BK242; clear BK258; clear BK263; clear BK268; clear BK274; clear HB; have HO248 := n0_; have HO252 := n1_; have HO256 := n2_; have HO262 := n3_; have HO267 := n4_; have HO272 := n5_; have HO279 := n6_; have HO284 := n7_; have BK241 := n8_; have BK242 := n9_; have BK258 := n10_; have BK263 := n11_; have BK268 := n12_; have BK274 := n13_; have HB := n14_; clear n0_ n1_ n2_ n3_ n4_ n5_ n6_ n7_ n8_ n9_ n10_ n11_ n12_ n13_ n14_; (try clear hb); (try clear hb2); (try clear hk); (try clear hi)))
      have n0_ := Aside0.mk (Kd.R_drew HO248.out)
      have n1_ := Aside0.mk (Kd.R_drew HO252.out)
      have n2_ := Aside0.mk (Kd.R_drew HO256.out)
      have n3_ := Aside0.mk (Kd.R_drew HO262.out)
      have n4_ := Aside0.mk (Kd.R_drew HO267.out)
      have n5_ := Aside0.mk (Kd.R_drew HO272.out)
      have n6_ := Aside0.mk (Kd.R_drew HO279.out)
      have n7_ := Aside0.mk (Kd.R_drew HO284.out)
      have n8_ := Aside0.mk (blk_drew BK241.out)
      have n9_ := Aside0.mk (blk_drew BK242.out)
      have n10_ := Aside0.mk (blk_drew BK258.out)
      have n11_ := Aside0.mk (blk_drew BK263.out)
      have n12_ := Aside0.mk (blk_drew BK268.out)
      have n13_ := Aside0.mk (blk_drew BK274.out)
      have n14_ := Aside0.mk (below_drew1 HB.out)
      clear HO248 HO252 HO256 HO262 HO267 HO272 HO279 HO284 BK241 BK242 BK258 BK263 BK268 BK274 HB
      have HO248 := n0_
      have HO252 := n1_
      have HO256 := n2_
      have HO262 := n3_
      have HO267 := n4_
      have HO272 := n5_
      have HO279 := n6_
      have HO284 := n7_
      have BK241 := n8_
      have BK242 := n9_
      have BK258 := n10_
      have BK263 := n11_
      have BK268 := n12_
      have BK274 := n13_
      have HB := n14_
      clear n0_ n1_ n2_ n3_ n4_ n5_ n6_ n7_ n8_ n9_ n10_ n11_ n12_ n13_ n14_
      refine start_ (n := 11) (S := fun w' => w'.cell? ⟨gb241, 0, none⟩ = some (.int .i64 a0_0) ∧ w'.cell? ⟨gb241, 1, none⟩ = some (.slice A0_1 l0_1.length c0_1) ∧ w'.cell? ⟨gb242, 0, none⟩ = some (.int .i64 a1_0) ∧ w'.cell? ⟨gb242, 1, none⟩ = some (.slice A1_1 l1_1.length c1_1)) (ds := []) #[false, false, false, false, false, false, false, false, false, false, false] (by kernel_rfl) rfl rfl ⟨(blk_cell BK241.out 0).trans rfl, (blk_cell BK241.out 1).trans rfl, (blk_cell BK242.out 0).trans rfl, (blk_cell BK242.out 1).trans rfl⟩ (fun hHeld => ?_); refine with_tabW laws_FnExactMultiplyRings.tab31 laws_FnExactMultiplyRings.bits31 (fun HT_ HW_ => ?_)
      generalize w119.drew = w120 at HO248 HO252 HO256 HO262 HO267 HO272 HO279 HO284 BK241 BK242 BK258 BK263 BK268 BK274 HB hHeld ⊢
      refine take_ (i := 0) (N := some 95) (v := ?_) (a' := ?_) #[true, false, false, false, false, false, false, false, false, false, false] rfl rfl (take_ofW HT_.out HW_.out (by kernel_rfl)) (fun _ _ _ h => h) (Or.inl ⟨by rfl, ?_⟩) hHeld ?_ ?_
      rotate_left
      · rintro w' ⟨s0, s1, s2, s3⟩
        go_simp
        with_reducible rfl
      rotate_left
      · simp only [Act.put, List.setIfInBounds_toArray, List.set_cons_zero, List.set_cons_succ, i64_w, i32_w]
        rfl
      refine take_ (i := 2) (N := some 97) (v := ?_) (a' := ?_) #[true, false, true, false, false, false, false, false, false, false, false] rfl rfl (take_ofW HT_.out HW_.out (by kernel_rfl)) (fun _ _ _ h => h) (Or.inl ⟨by rfl, ?_⟩) hHeld ?_ ?_
      rotate_left
      · rintro w' ⟨s0, s1, s2, s3⟩
        go_simp
        with_reducible rfl
      rotate_left
      · simp only [Act.put, List.setIfInBounds_toArray, List.set_cons_zero, List.set_cons_succ, i64_w, i32_w]
        rfl
      refine join_ (σ := Value × Value × Value × Nat) 2 #[true, true, true, true, true, true, true, true, true, false, false] (fun s_ => [(96, .agg #[.int .i64 t294, s_.1]), (98, .agg #[.int .i64 t298, s_.2.1]), (99, .tuple #[.agg #[.int .i64 t302, s_.2.2.1], .int .i64 t306]), (15, .pointer (some ⟨s_.2.2.2, 0, none⟩)), (94, .tuple #[.agg #[.int .i64 t302, s_.2.2.1], .int .i64 t306]), (100, .agg #[.int .i64 t302, s_.2.2.1]), (101, .int .i64 t306)]) (fun s_ w' => (w'.cell? ⟨gb241, 0, none⟩ = some (.int .i64 a0_0) ∧ w'.cell? ⟨gb241, 1, none⟩ = some (.slice A0_1 l0_1.length c0_1) ∧ w'.cell? ⟨gb242, 0, none⟩ = some (.int .i64 a1_0) ∧ w'.cell? ⟨gb242, 1, none⟩ = some (.slice A1_1 l1_1.length c1_1)) ∧ (Kd.R (Kd.int .i64) 2 w' w.heap.size (fun k_ => some k_ ≠ (v251 : Value).ownBlock ∧ some k_ ≠ (.slice Ao68 t254.length co68 : Value).ownBlock ∧ some k_ ≠ (.slice Ao78 t260.length co78 : Value).ownBlock ∧ some k_ ≠ (.slice Ao88 t265.length co88 : Value).ownBlock ∧ some k_ ≠ (.slice Ao98 t270.length co98 : Value).ownBlock ∧ some k_ ≠ (.slice Ao103 t277.length co103 : Value).ownBlock ∧ some k_ ≠ (.slice Ao107 t282.length co107 : Value).ownBlock ∧ some k_ ≠ (s_.1 : Value).ownBlock ∧ some k_ ≠ (s_.2.1 : Value).ownBlock ∧ some k_ ≠ (s_.2.2.1 : Value).ownBlock) v247 t246) ∧ (Kd.R (Kd.int .i64) 2 w' w.heap.size (fun k_ => some k_ ≠ (v247 : Value).ownBlock ∧ some k_ ≠ (.slice Ao68 t254.length co68 : Value).ownBlock ∧ some k_ ≠ (.slice Ao78 t260.length co78 : Value).ownBlock ∧ some k_ ≠ (.slice Ao88 t265.length co88 : Value).ownBlock ∧ some k_ ≠ (.slice Ao98 t270.length co98 : Value).ownBlock ∧ some k_ ≠ (.slice Ao103 t277.length co103 : Value).ownBlock ∧ some k_ ≠ (.slice Ao107 t282.length co107 : Value).ownBlock ∧ some k_ ≠ (s_.1 : Value).ownBlock ∧ some k_ ≠ (s_.2.1 : Value).ownBlock ∧ some k_ ≠ (s_.2.2.1 : Value).ownBlock) v251 t250) ∧ (Kd.R (Kd.int .i64) 2 w' w.heap.size (fun k_ => some k_ ≠ (v247 : Value).ownBlock ∧ some k_ ≠ (v251 : Value).ownBlock ∧ some k_ ≠ (.slice Ao78 t260.length co78 : Value).ownBlock ∧ some k_ ≠ (.slice Ao88 t265.length co88 : Value).ownBlock ∧ some k_ ≠ (.slice Ao98 t270.length co98 : Value).ownBlock ∧ some k_ ≠ (.slice Ao103 t277.length co103 : Value).ownBlock ∧ some k_ ≠ (.slice Ao107 t282.length co107 : Value).ownBlock ∧ some k_ ≠ (s_.1 : Value).ownBlock ∧ some k_ ≠ (s_.2.1 : Value).ownBlock ∧ some k_ ≠ (s_.2.2.1 : Value).ownBlock) (.slice Ao68 t254.length co68) t254) ∧ (Kd.R (Kd.int .i64) 2 w' w.heap.size (fun k_ => some k_ ≠ (v247 : Value).ownBlock ∧ some k_ ≠ (v251 : Value).ownBlock ∧ some k_ ≠ (.slice Ao68 t254.length co68 : Value).ownBlock ∧ some k_ ≠ (.slice Ao88 t265.length co88 : Value).ownBlock ∧ some k_ ≠ (.slice Ao98 t270.length co98 : Value).ownBlock ∧ some k_ ≠ (.slice Ao103 t277.length co103 : Value).ownBlock ∧ some k_ ≠ (.slice Ao107 t282.length co107 : Value).ownBlock ∧ some k_ ≠ (s_.1 : Value).ownBlock ∧ some k_ ≠ (s_.2.1 : Value).ownBlock ∧ some k_ ≠ (s_.2.2.1 : Value).ownBlock) (.slice Ao78 t260.length co78) t287) ∧ (Kd.R (Kd.int .i64) 2 w' w.heap.size (fun k_ => some k_ ≠ (v247 : Value).ownBlock ∧ some k_ ≠ (v251 : Value).ownBlock ∧ some k_ ≠ (.slice Ao68 t254.length co68 : Value).ownBlock ∧ some k_ ≠ (.slice Ao78 t260.length co78 : Value).ownBlock ∧ some k_ ≠ (.slice Ao98 t270.length co98 : Value).ownBlock ∧ some k_ ≠ (.slice Ao103 t277.length co103 : Value).ownBlock ∧ some k_ ≠ (.slice Ao107 t282.length co107 : Value).ownBlock ∧ some k_ ≠ (s_.1 : Value).ownBlock ∧ some k_ ≠ (s_.2.1 : Value).ownBlock ∧ some k_ ≠ (s_.2.2.1 : Value).ownBlock) (.slice Ao88 t265.length co88) t289) ∧ (Kd.R (Kd.int .i64) 2 w' w.heap.size (fun k_ => some k_ ≠ (v247 : Value).ownBlock ∧ some k_ ≠ (v251 : Value).ownBlock ∧ some k_ ≠ (.slice Ao68 t254.length co68 : Value).ownBlock ∧ some k_ ≠ (.slice Ao78 t260.length co78 : Value).ownBlock ∧ some k_ ≠ (.slice Ao88 t265.length co88 : Value).ownBlock ∧ some k_ ≠ (.slice Ao103 t277.length co103 : Value).ownBlock ∧ some k_ ≠ (.slice Ao107 t282.length co107 : Value).ownBlock ∧ some k_ ≠ (s_.1 : Value).ownBlock ∧ some k_ ≠ (s_.2.1 : Value).ownBlock ∧ some k_ ≠ (s_.2.2.1 : Value).ownBlock) (.slice Ao98 t270.length co98) t292) ∧ (Kd.R (Kd.int .i64) 2 w' w.heap.size (fun k_ => some k_ ≠ (v247 : Value).ownBlock ∧ some k_ ≠ (v251 : Value).ownBlock ∧ some k_ ≠ (.slice Ao68 t254.length co68 : Value).ownBlock ∧ some k_ ≠ (.slice Ao78 t260.length co78 : Value).ownBlock ∧ some k_ ≠ (.slice Ao88 t265.length co88 : Value).ownBlock ∧ some k_ ≠ (.slice Ao98 t270.length co98 : Value).ownBlock ∧ some k_ ≠ (.slice Ao107 t282.length co107 : Value).ownBlock ∧ some k_ ≠ (s_.1 : Value).ownBlock ∧ some k_ ≠ (s_.2.1 : Value).ownBlock ∧ some k_ ≠ (s_.2.2.1 : Value).ownBlock) (.slice Ao103 t277.length co103) t277) ∧ (Kd.R (Kd.int .i64) 2 w' w.heap.size (fun k_ => some k_ ≠ (v247 : Value).ownBlock ∧ some k_ ≠ (v251 : Value).ownBlock ∧ some k_ ≠ (.slice Ao68 t254.length co68 : Value).ownBlock ∧ some k_ ≠ (.slice Ao78 t260.length co78 : Value).ownBlock ∧ some k_ ≠ (.slice Ao88 t265.length co88 : Value).ownBlock ∧ some k_ ≠ (.slice Ao98 t270.length co98 : Value).ownBlock ∧ some k_ ≠ (.slice Ao103 t277.length co103 : Value).ownBlock ∧ some k_ ≠ (s_.1 : Value).ownBlock ∧ some k_ ≠ (s_.2.1 : Value).ownBlock ∧ some k_ ≠ (s_.2.2.1 : Value).ownBlock) (.slice Ao107 t282.length co107) t282) ∧ (Kd.R (Kd.int .i64) 2 w' w.heap.size (fun k_ => some k_ ≠ (v247 : Value).ownBlock ∧ some k_ ≠ (v251 : Value).ownBlock ∧ some k_ ≠ (.slice Ao68 t254.length co68 : Value).ownBlock ∧ some k_ ≠ (.slice Ao78 t260.length co78 : Value).ownBlock ∧ some k_ ≠ (.slice Ao88 t265.length co88 : Value).ownBlock ∧ some k_ ≠ (.slice Ao98 t270.length co98 : Value).ownBlock ∧ some k_ ≠ (.slice Ao103 t277.length co103 : Value).ownBlock ∧ some k_ ≠ (.slice Ao107 t282.length co107 : Value).ownBlock ∧ some k_ ≠ (s_.2.1 : Value).ownBlock ∧ some k_ ≠ (s_.2.2.1 : Value).ownBlock) s_.1 t295) ∧ (Kd.R (Kd.int .i64) 2 w' w.heap.size (fun k_ => some k_ ≠ (v247 : Value).ownBlock ∧ some k_ ≠ (v251 : Value).ownBlock ∧ some k_ ≠ (.slice Ao68 t254.length co68 : Value).ownBlock ∧ some k_ ≠ (.slice Ao78 t260.length co78 : Value).ownBlock ∧ some k_ ≠ (.slice Ao88 t265.length co88 : Value).ownBlock ∧ some k_ ≠ (.slice Ao98 t270.length co98 : Value).ownBlock ∧ some k_ ≠ (.slice Ao103 t277.length co103 : Value).ownBlock ∧ some k_ ≠ (.slice Ao107 t282.length co107 : Value).ownBlock ∧ some k_ ≠ (s_.1 : Value).ownBlock ∧ some k_ ≠ (s_.2.2.1 : Value).ownBlock) s_.2.1 t299) ∧ (Kd.R (Kd.int .i64) 2 w' w.heap.size (fun k_ => some k_ ≠ (v247 : Value).ownBlock ∧ some k_ ≠ (v251 : Value).ownBlock ∧ some k_ ≠ (.slice Ao68 t254.length co68 : Value).ownBlock ∧ some k_ ≠ (.slice Ao78 t260.length co78 : Value).ownBlock ∧ some k_ ≠ (.slice Ao88 t265.length co88 : Value).ownBlock ∧ some k_ ≠ (.slice Ao98 t270.length co98 : Value).ownBlock ∧ some k_ ≠ (.slice Ao103 t277.length co103 : Value).ownBlock ∧ some k_ ≠ (.slice Ao107 t282.length co107 : Value).ownBlock ∧ some k_ ≠ (s_.1 : Value).ownBlock ∧ some k_ ≠ (s_.2.1 : Value).ownBlock) s_.2.2.1 t303) ∧ (w'.heap[gb241]? = some (.cells #[.int .i64 a0_0, .slice A0_1 l0_1.length c0_1] 32 (0, 0))) ∧ (w'.heap[gb242]? = some (.cells #[.int .i64 a1_0, .slice A1_1 l1_1.length c1_1] 32 (0, 0))) ∧ (w'.heap[gb258]? = some (.cells #[.int .i64 t253, .slice Ao68 t254.length co68] 24 (0, 0))) ∧ (w'.heap[gb263]? = some (.cells #[.int .i64 t259, .slice Ao78 t260.length co78] 24 (0, 0))) ∧ (w'.heap[gb268]? = some (.cells #[.int .i64 t264, .slice Ao88 t265.length co88] 24 (0, 0))) ∧ (w'.heap[gb274]? = some (.cells #[.int .i64 t269, .slice Ao98 t270.length co98] 24 (0, 0))) ∧ (w'.heap[s_.2.2.2]? = some (.cells #[.int .i64 0, .slice none 0 0] 24 (0, 0))) ∧ (w.heap.size ≤ s_.2.2.2) ∧ (w.heap.size ≤ s_.2.2.2) ∧ (gb241 ≠ s_.2.2.2) ∧ (s_.2.2.2 ≠ gb241) ∧ (gb242 ≠ s_.2.2.2) ∧ (s_.2.2.2 ≠ gb242) ∧ (gb258 ≠ s_.2.2.2) ∧ (s_.2.2.2 ≠ gb258) ∧ (gb263 ≠ s_.2.2.2) ∧ (s_.2.2.2 ≠ gb263) ∧ (gb268 ≠ s_.2.2.2) ∧ (s_.2.2.2 ≠ gb268) ∧ (gb274 ≠ s_.2.2.2) ∧ (s_.2.2.2 ≠ gb274) ∧ (Below w.heap.size w w')) ?_ ?_
      rotate_left
      · intro hCont
        refine two_ (i := 1) (j := 8) (Ni := some 96) (Nj := some 15) #[true, true, true, false, false, false, false, false, false, false, false] #[true, false, true, false, false, false, false, false, true, false, false] rfl rfl rfl rfl (two_of HT_.out (by kernel_rfl)) (by decide) (by decide) (fun K hK => ?_) (fun K hK => ?_)
        · skip
          refine goes_ Try.func21 (by kernel_rfl) rfl #[.agg #[.int .i64 a0_0, .slice A0_1 l0_1.length c0_1]] (by rfl) rfl rfl (by (try simp only [List.map_toArray, List.map_cons, List.map_nil]); first | done | rfl | (simp only [List.length_drop, List.length_take]; rfl)) ?_
          with_reducible refine (laws_toRing.calls k a0_0 _ _ l0_1 t294 t295 _ ?side1 ?side2 A43.out).mono ?_
          (case side1 => repeat (first | exact (Kd.C_below HR0_1.out HB.out) | (with_reducible refine Kd.C_alloc ?_ _) | (with_reducible refine Kd.C_drewN ?_ _) | (with_reducible refine Kd.C_drew ?_)))
          (case side2 => exact HC0_1.out)
          rintro e w121 ⟨v296, rfl, ho0, hb⟩
          refine ⟨_, rfl, ?_⟩
          have n0_ := Aside0.mk (Kd.R_elder' (rk HO248.out) (Kd.R_base ho0) hb)
          have n1_ := Aside0.mk (Kd.R_elder' (rk HO252.out) (Kd.R_base ho0) hb)
          have n2_ := Aside0.mk (Kd.R_elder' (rk HO256.out) (Kd.R_base ho0) hb)
          have n3_ := Aside0.mk (Kd.R_elder' (rk HO262.out) (Kd.R_base ho0) hb)
          have n4_ := Aside0.mk (Kd.R_elder' (rk HO267.out) (Kd.R_base ho0) hb)
          have n5_ := Aside0.mk (Kd.R_elder' (rk HO272.out) (Kd.R_base ho0) hb)
          have n6_ := Aside0.mk (Kd.R_elder' (rk HO279.out) (Kd.R_base ho0) hb)
          have n7_ := Aside0.mk (Kd.R_elder' (rk HO284.out) (Kd.R_base ho0) hb)
          have n8_ := Aside0.mk (Kd.R_lower (Kd.R_new' (Kd.R_new' (Kd.R_new' (Kd.R_new' (Kd.R_new' (Kd.R_new' (Kd.R_new' (Kd.R_new' ho0 (Kd.R_lt (rk HO248.out))) (Kd.R_lt (rk HO252.out))) (Kd.R_lt (rk HO256.out))) (Kd.R_lt (rk HO262.out))) (Kd.R_lt (rk HO267.out))) (Kd.R_lt (rk HO272.out))) (Kd.R_lt (rk HO279.out))) (Kd.R_lt (rk HO284.out))) (below_size (bks HB.out)))
          have n9_ := Aside0.mk (blk_below (pk BK241.out) hb)
          have n10_ := Aside0.mk (blk_below (pk BK242.out) hb)
          have n11_ := Aside0.mk (blk_below (pk BK258.out) hb)
          have n12_ := Aside0.mk (blk_below (pk BK263.out) hb)
          have n13_ := Aside0.mk (blk_below (pk BK268.out) hb)
          have n14_ := Aside0.mk (blk_below (pk BK274.out) hb)
          have n15_ := Aside0.mk (below_step (bks HB.out) hb)
          clear HO248 HO252 HO256 HO262 HO267 HO272 HO279 HO284 BK241 BK242 BK258 BK263 BK268 BK274 HB
          have HO248 := n0_
          have HO252 := n1_
          have HO256 := n2_
          have HO262 := n3_
          have HO267 := n4_
          have HO272 := n5_
          have HO279 := n6_
          have HO284 := n7_
          have HO297 := n8_
          have BK241 := n9_
          have BK242 := n10_
          have BK258 := n11_
          have BK263 := n12_
          have BK268 := n13_
          have BK274 := n14_
          have HB := n15_
          clear n0_ n1_ n2_ n3_ n4_ n5_ n6_ n7_ n8_ n9_ n10_ n11_ n12_ n13_ n14_ n15_
          (try clear hb)
          (try clear hb2)
          (try clear hk)
          (try clear hi)
          (try clear ho0)
          refine hK.out _ _ ⟨(blk_cell BK241.out 0).trans rfl, (blk_cell BK241.out 1).trans rfl, (blk_cell BK242.out 0).trans rfl, (blk_cell BK242.out 1).trans rfl⟩ (fun hHeld => ?_)
          clear hK K
          refine norm_ (a' := ?_) ?_ ?_
          rotate_left
          · show Act.put _ (some 96) _ = _
            simp only [Act.put, List.setIfInBounds_toArray, List.set_cons_zero, List.set_cons_succ, i64_w, i32_w]
            rfl
          refine two_ (i := 3) (j := 8) (Ni := some 98) (Nj := some 15) #[true, true, true, true, false, false, false, false, false, false, false] #[true, true, true, false, false, false, false, false, true, false, false] rfl rfl rfl rfl (two_of HT_.out (by kernel_rfl)) (by decide) (by decide) (fun K hK => ?_) (fun K hK => ?_)
          · skip
            refine goes_ Try.func21 (by kernel_rfl) rfl #[.agg #[.int .i64 a1_0, .slice A1_1 l1_1.length c1_1]] (by rfl) rfl rfl (by (try simp only [List.map_toArray, List.map_cons, List.map_nil]); first | done | rfl | (simp only [List.length_drop, List.length_take]; rfl)) ?_
            with_reducible refine (laws_toRing.calls k a1_0 _ _ l1_1 t298 t299 _ ?side1 ?side2 A44.out).mono ?_
            (case side1 => repeat (first | exact (Kd.C_below HR1_1.out HB.out) | (with_reducible refine Kd.C_alloc ?_ _) | (with_reducible refine Kd.C_drewN ?_ _) | (with_reducible refine Kd.C_drew ?_)))
            (case side2 => exact HC1_1.out)
            rintro e w122 ⟨v300, rfl, ho0, hb⟩
            refine ⟨_, rfl, ?_⟩
            have n0_ := Aside0.mk (Kd.R_elder' (rk HO248.out) (Kd.R_base ho0) hb)
            have n1_ := Aside0.mk (Kd.R_elder' (rk HO252.out) (Kd.R_base ho0) hb)
            have n2_ := Aside0.mk (Kd.R_elder' (rk HO256.out) (Kd.R_base ho0) hb)
            have n3_ := Aside0.mk (Kd.R_elder' (rk HO262.out) (Kd.R_base ho0) hb)
            have n4_ := Aside0.mk (Kd.R_elder' (rk HO267.out) (Kd.R_base ho0) hb)
            have n5_ := Aside0.mk (Kd.R_elder' (rk HO272.out) (Kd.R_base ho0) hb)
            have n6_ := Aside0.mk (Kd.R_elder' (rk HO279.out) (Kd.R_base ho0) hb)
            have n7_ := Aside0.mk (Kd.R_elder' (rk HO284.out) (Kd.R_base ho0) hb)
            have n8_ := Aside0.mk (Kd.R_elder' (rk HO297.out) (Kd.R_base ho0) hb)
            have n9_ := Aside0.mk (Kd.R_lower (Kd.R_new' (Kd.R_new' (Kd.R_new' (Kd.R_new' (Kd.R_new' (Kd.R_new' (Kd.R_new' (Kd.R_new' (Kd.R_new' ho0 (Kd.R_lt (rk HO248.out))) (Kd.R_lt (rk HO252.out))) (Kd.R_lt (rk HO256.out))) (Kd.R_lt (rk HO262.out))) (Kd.R_lt (rk HO267.out))) (Kd.R_lt (rk HO272.out))) (Kd.R_lt (rk HO279.out))) (Kd.R_lt (rk HO284.out))) (Kd.R_lt (rk HO297.out))) (below_size (bks HB.out)))
            have n10_ := Aside0.mk (blk_below (pk BK241.out) hb)
            have n11_ := Aside0.mk (blk_below (pk BK242.out) hb)
            have n12_ := Aside0.mk (blk_below (pk BK258.out) hb)
            have n13_ := Aside0.mk (blk_below (pk BK263.out) hb)
            have n14_ := Aside0.mk (blk_below (pk BK268.out) hb)
            have n15_ := Aside0.mk (blk_below (pk BK274.out) hb)
            have n16_ := Aside0.mk (below_step (bks HB.out) hb)
            clear HO248 HO252 HO256 HO262 HO267 HO272 HO279 HO284 HO297 BK241 BK242 BK258 BK263 BK268 BK274 HB
            have HO248 := n0_
            have HO252 := n1_
            have HO256 := n2_
            have HO262 := n3_
            have HO267 := n4_
            have HO272 := n5_
            have HO279 := n6_
            have HO284 := n7_
            have HO297 := n8_
            have HO301 := n9_
            have BK241 := n10_
            have BK242 := n11_
            have BK258 := n12_
            have BK263 := n13_
            have BK268 := n14_
            have BK274 := n15_
            have HB := n16_
            clear n0_ n1_ n2_ n3_ n4_ n5_ n6_ n7_ n8_ n9_ n10_ n11_ n12_ n13_ n14_ n15_ n16_
            (try clear hb)
            (try clear hb2)
            (try clear hk)
            (try clear hi)
            (try clear ho0)
            obtain ⟨Ao123, co123, eo123⟩ := Kd.R_slice HO297.out
            (first | subst eo123 | (injection eo123 with f1_ f2_ f3_; have f4_ := f1_.symm; have f5_ := f3_.symm; clear f1_ f2_ f3_; subst f4_; subst f5_))
            obtain ⟨Ao124, co124, eo124⟩ := Kd.R_slice HO301.out
            (first | subst eo124 | (injection eo124 with f1_ f2_ f3_; have f4_ := f1_.symm; have f5_ := f3_.symm; clear f1_ f2_ f3_; subst f4_; subst f5_))
            refine hK.out _ _ ⟨(blk_cell BK241.out 0).trans rfl, (blk_cell BK241.out 1).trans rfl, (blk_cell BK242.out 0).trans rfl, (blk_cell BK242.out 1).trans rfl⟩ (fun hHeld => ?_)
            clear hK K
            refine norm_ (a' := ?_) ?_ ?_
            rotate_left
            · show Act.put _ (some 98) _ = _
              simp only [Act.put, List.setIfInBounds_toArray, List.set_cons_zero, List.set_cons_succ, i64_w, i32_w]
              rfl
            refine two_ (i := 4) (j := 8) (Ni := some 99) (Nj := some 15) #[true, true, true, true, true, false, false, false, false, false, false] #[true, true, true, true, false, false, false, false, true, false, false] rfl rfl rfl rfl (two_of HT_.out (by kernel_rfl)) (by decide) (by decide) (fun K hK => ?_) (fun K hK => ?_)
            · skip
              refine goes_ Try.func28 (by kernel_rfl) rfl #[.agg #[.int .i64 t294, .slice Ao123 t295.length co123], .agg #[.int .i64 t298, .slice Ao124 t299.length co124]] (by rfl) rfl rfl (by (try simp only [List.map_toArray, List.map_cons, List.map_nil]); first | done | rfl | (simp only [List.length_drop, List.length_take]; rfl)) ?_
              with_reducible refine (impl_MultiplyRings.calls k t294 _ _ t295 t298 _ _ t299 t302 t303 t306 _ ?side1 ?side2 ?side3 ?side4 A45.out).mono ?_
              (case side1 => repeat (first | exact (Kd.R_reads' HO297.out).2.2 | (with_reducible refine Kd.C_alloc ?_ _) | (with_reducible refine Kd.C_drewN ?_ _) | (with_reducible refine Kd.C_drew ?_)))
              (case side2 => exact (Kd.R_reads' HO297.out).2.1)
              (case side3 => repeat (first | exact (Kd.R_reads' HO301.out).2.2 | (with_reducible refine Kd.C_alloc ?_ _) | (with_reducible refine Kd.C_drewN ?_ _) | (with_reducible refine Kd.C_drew ?_)))
              (case side4 => exact (Kd.R_reads' HO301.out).2.1)
              rintro e w125 ⟨v304, rfl, ho0, hb⟩
              refine ⟨_, rfl, ?_⟩
              have n0_ := Aside0.mk (Kd.R_elder' (rk HO248.out) (Kd.R_base ho0) hb)
              have n1_ := Aside0.mk (Kd.R_elder' (rk HO252.out) (Kd.R_base ho0) hb)
              have n2_ := Aside0.mk (Kd.R_elder' (rk HO256.out) (Kd.R_base ho0) hb)
              have n3_ := Aside0.mk (Kd.R_elder' (rk HO262.out) (Kd.R_base ho0) hb)
              have n4_ := Aside0.mk (Kd.R_elder' (rk HO267.out) (Kd.R_base ho0) hb)
              have n5_ := Aside0.mk (Kd.R_elder' (rk HO272.out) (Kd.R_base ho0) hb)
              have n6_ := Aside0.mk (Kd.R_elder' (rk HO279.out) (Kd.R_base ho0) hb)
              have n7_ := Aside0.mk (Kd.R_elder' (rk HO284.out) (Kd.R_base ho0) hb)
              have n8_ := Aside0.mk (Kd.R_elder' (rk HO297.out) (Kd.R_base ho0) hb)
              have n9_ := Aside0.mk (Kd.R_elder' (rk HO301.out) (Kd.R_base ho0) hb)
              have n10_ := Aside0.mk (Kd.R_lower (Kd.R_new' (Kd.R_new' (Kd.R_new' (Kd.R_new' (Kd.R_new' (Kd.R_new' (Kd.R_new' (Kd.R_new' (Kd.R_new' (Kd.R_new' ho0 (Kd.R_lt (rk HO248.out))) (Kd.R_lt (rk HO252.out))) (Kd.R_lt (rk HO256.out))) (Kd.R_lt (rk HO262.out))) (Kd.R_lt (rk HO267.out))) (Kd.R_lt (rk HO272.out))) (Kd.R_lt (rk HO279.out))) (Kd.R_lt (rk HO284.out))) (Kd.R_lt (rk HO297.out))) (Kd.R_lt (rk HO301.out))) (below_size (bks HB.out)))
              have n11_ := Aside0.mk (blk_below (pk BK241.out) hb)
              have n12_ := Aside0.mk (blk_below (pk BK242.out) hb)
              have n13_ := Aside0.mk (blk_below (pk BK258.out) hb)
              have n14_ := Aside0.mk (blk_below (pk BK263.out) hb)
              have n15_ := Aside0.mk (blk_below (pk BK268.out) hb)
              have n16_ := Aside0.mk (blk_below (pk BK274.out) hb)
              have n17_ := Aside0.mk (below_step (bks HB.out) hb)
              clear HO248 HO252 HO256 HO262 HO267 HO272 HO279 HO284 HO297 HO301 BK241 BK242 BK258 BK263 BK268 BK274 HB
              have HO248 := n0_
              have HO252 := n1_
              have HO256 := n2_
              have HO262 := n3_
              have HO267 := n4_
              have HO272 := n5_
              have HO279 := n6_
              have HO284 := n7_
              have HO297 := n8_
              have HO301 := n9_
              have HO305 := n10_
              have BK241 := n11_
              have BK242 := n12_
              have BK258 := n13_
              have BK263 := n14_
              have BK268 := n15_
              have BK274 := n16_
              have HB := n17_
              clear n0_ n1_ n2_ n3_ n4_ n5_ n6_ n7_ n8_ n9_ n10_ n11_ n12_ n13_ n14_ n15_ n16_ n17_
              (try clear hb)
              (try clear hb2)
              (try clear hk)
              (try clear hi)
              (try clear ho0)
              refine hK.out _ _ ⟨(blk_cell BK241.out 0).trans rfl, (blk_cell BK241.out 1).trans rfl, (blk_cell BK242.out 0).trans rfl, (blk_cell BK242.out 1).trans rfl⟩ (fun hHeld => ?_)
              clear hK K
              refine norm_ (a' := ?_) ?_ ?_
              rotate_left
              · show Act.put _ (some 99) _ = _
                simp only [Act.put, List.setIfInBounds_toArray, List.set_cons_zero, List.set_cons_succ, i64_w, i32_w]
                rfl
              refine pure_ (i := 5) (N := some 94) (v := ?_) (a' := ?_) #[true, true, true, true, true, true, false, false, false, false, false] rfl rfl (any_of HT_.out (by kernel_rfl)) (fun _ _ _ h => h) (Or.inl ⟨by rfl, ?_⟩) ?_ ?_
              rotate_left
              · intro w'
                go_simp
                with_reducible rfl
              rotate_left
              · simp only [Act.put, List.setIfInBounds_toArray, List.set_cons_zero, List.set_cons_succ, i64_w, i32_w]
                rfl
              refine pure_ (i := 6) (N := some 100) (v := ?_) (a' := ?_) #[true, true, true, true, true, true, true, false, false, false, false] rfl rfl (any_of HT_.out (by kernel_rfl)) (fun _ _ _ h => h) (Or.inl ⟨by rfl, ?_⟩) ?_ ?_
              rotate_left
              · intro w'
                go_simp
                with_reducible rfl
              rotate_left
              · simp only [Act.put, List.setIfInBounds_toArray, List.set_cons_zero, List.set_cons_succ, i64_w, i32_w]
                rfl
              refine pure_ (i := 7) (N := some 101) (v := ?_) (a' := ?_) #[true, true, true, true, true, true, true, true, false, false, false] rfl rfl (any_of HT_.out (by kernel_rfl)) (fun _ _ _ h => h) (Or.inl ⟨by rfl, ?_⟩) ?_ ?_
              rotate_left
              · intro w'
                go_simp
                with_reducible rfl
              rotate_left
              · simp only [Act.put, List.setIfInBounds_toArray, List.set_cons_zero, List.set_cons_succ, i64_w, i32_w]
                rfl
              refine one_ (i := 8) (N := some 15) #[true, true, true, true, true, true, true, true, true, false, false] rfl rfl (one_of HT_.out (by kernel_rfl)) (by decide) (fun K hK => ?_)
              refine box_step ?hg (N := 15) ?hd (cs := #[.int .i64 0, .slice none 0 0]) (t := 24) ?hr ?_; (case hd => rfl); (case hg => rfl); (case hr => first | (go_simp; done) | (go_simp; rfl))
              intro gb307 hg w126 hbox hb
              have n0_ := Aside0.mk (Kd.R_below (rk HO248.out) hb)
              have n1_ := Aside0.mk (Kd.R_below (rk HO252.out) hb)
              have n2_ := Aside0.mk (Kd.R_below (rk HO256.out) hb)
              have n3_ := Aside0.mk (Kd.R_below (rk HO262.out) hb)
              have n4_ := Aside0.mk (Kd.R_below (rk HO267.out) hb)
              have n5_ := Aside0.mk (Kd.R_below (rk HO272.out) hb)
              have n6_ := Aside0.mk (Kd.R_below (rk HO279.out) hb)
              have n7_ := Aside0.mk (Kd.R_below (rk HO284.out) hb)
              have n8_ := Aside0.mk (Kd.R_below (rk HO297.out) hb)
              have n9_ := Aside0.mk (Kd.R_below (rk HO301.out) hb)
              have n10_ := Aside0.mk (Kd.R_below (rk HO305.out) hb)
              have n11_ := Aside0.mk (blk_below (pk BK241.out) hb)
              have n12_ := Aside0.mk (blk_below (pk BK242.out) hb)
              have n13_ := Aside0.mk (blk_below (pk BK258.out) hb)
              have n14_ := Aside0.mk (blk_below (pk BK263.out) hb)
              have n15_ := Aside0.mk (blk_below (pk BK268.out) hb)
              have n16_ := Aside0.mk (blk_below (pk BK274.out) hb)
              have n17_ := Aside0.mk (below_step (bks HB.out) hb)
              have n18_ := Aside0.mk (hbox)
              have n19_ := Aside0.mk ((by rw [hg]; exact (below_size (bks HB.out)) : w.heap.size ≤ gb307))
              have n20_ := Aside0.mk ((by rw [hg]; exact (below_size (bks HB.out)) : w.heap.size ≤ gb307))
              have n21_ := Aside0.mk ((by rw [hg]; exact Nat.ne_of_lt (blk_lt (g := gb241) (o := .cells #[.int .i64 a0_0, .slice A0_1 l0_1.length c0_1] 32 (0, 0)) (pk BK241.out)) : gb241 ≠ gb307))
              have n22_ := Aside0.mk ((by rw [hg]; exact Nat.ne_of_gt (blk_lt (g := gb241) (o := .cells #[.int .i64 a0_0, .slice A0_1 l0_1.length c0_1] 32 (0, 0)) (pk BK241.out)) : gb307 ≠ gb241))
              have n23_ := Aside0.mk ((by rw [hg]; exact Nat.ne_of_lt (blk_lt (g := gb242) (o := .cells #[.int .i64 a1_0, .slice A1_1 l1_1.length c1_1] 32 (0, 0)) (pk BK242.out)) : gb242 ≠ gb307))
              have n24_ := Aside0.mk ((by rw [hg]; exact Nat.ne_of_gt (blk_lt (g := gb242) (o := .cells #[.int .i64 a1_0, .slice A1_1 l1_1.length c1_1] 32 (0, 0)) (pk BK242.out)) : gb307 ≠ gb242))
              have n25_ := Aside0.mk ((by rw [hg]; exact Nat.ne_of_lt (blk_lt (g := gb258) (o := .cells #[.int .i64 t253, .slice Ao68 t254.length co68] 24 (0, 0)) (pk BK258.out)) : gb258 ≠ gb307))
              have n26_ := Aside0.mk ((by rw [hg]; exact Nat.ne_of_gt (blk_lt (g := gb258) (o := .cells #[.int .i64 t253, .slice Ao68 t254.length co68] 24 (0, 0)) (pk BK258.out)) : gb307 ≠ gb258))
              have n27_ := Aside0.mk ((by rw [hg]; exact Nat.ne_of_lt (blk_lt (g := gb263) (o := .cells #[.int .i64 t259, .slice Ao78 t260.length co78] 24 (0, 0)) (pk BK263.out)) : gb263 ≠ gb307))
              have n28_ := Aside0.mk ((by rw [hg]; exact Nat.ne_of_gt (blk_lt (g := gb263) (o := .cells #[.int .i64 t259, .slice Ao78 t260.length co78] 24 (0, 0)) (pk BK263.out)) : gb307 ≠ gb263))
              have n29_ := Aside0.mk ((by rw [hg]; exact Nat.ne_of_lt (blk_lt (g := gb268) (o := .cells #[.int .i64 t264, .slice Ao88 t265.length co88] 24 (0, 0)) (pk BK268.out)) : gb268 ≠ gb307))
              have n30_ := Aside0.mk ((by rw [hg]; exact Nat.ne_of_gt (blk_lt (g := gb268) (o := .cells #[.int .i64 t264, .slice Ao88 t265.length co88] 24 (0, 0)) (pk BK268.out)) : gb307 ≠ gb268))
              have n31_ := Aside0.mk ((by rw [hg]; exact Nat.ne_of_lt (blk_lt (g := gb274) (o := .cells #[.int .i64 t269, .slice Ao98 t270.length co98] 24 (0, 0)) (pk BK274.out)) : gb274 ≠ gb307))
              have n32_ := Aside0.mk ((by rw [hg]; exact Nat.ne_of_gt (blk_lt (g := gb274) (o := .cells #[.int .i64 t269, .slice Ao98 t270.length co98] 24 (0, 0)) (pk BK274.out)) : gb307 ≠ gb274))
              clear HO248 HO252 HO256 HO262 HO267 HO272 HO279 HO284 HO297 HO301 HO305 BK241 BK242 BK258 BK263 BK268 BK274 HB
              have HO248 := n0_
              have HO252 := n1_
              have HO256 := n2_
              have HO262 := n3_
              have HO267 := n4_
              have HO272 := n5_
              have HO279 := n6_
              have HO284 := n7_
              have HO297 := n8_
              have HO301 := n9_
              have HO305 := n10_
              have BK241 := n11_
              have BK242 := n12_
              have BK258 := n13_
              have BK263 := n14_
              have BK268 := n15_
              have BK274 := n16_
              have HB := n17_
              have BK307 := n18_
              have GW307 := n19_
              have GE307 := n20_
              have NB241_307 := n21_
              have NB307_241 := n22_
              have NB242_307 := n23_
              have NB307_242 := n24_
              have NB258_307 := n25_
              have NB307_258 := n26_
              have NB263_307 := n27_
              have NB307_263 := n28_
              have NB268_307 := n29_
              have NB307_268 := n30_
              have NB274_307 := n31_
              have NB307_274 := n32_
              clear n0_ n1_ n2_ n3_ n4_ n5_ n6_ n7_ n8_ n9_ n10_ n11_ n12_ n13_ n14_ n15_ n16_ n17_ n18_ n19_ n20_ n21_ n22_ n23_ n24_ n25_ n26_ n27_ n28_ n29_ n30_ n31_ n32_ hb hbox hg
              refine hK.out _ _ ⟨(blk_cell BK241.out 0).trans rfl, (blk_cell BK241.out 1).trans rfl, (blk_cell BK242.out 0).trans rfl, (blk_cell BK242.out 1).trans rfl⟩ (fun hHeld => ?_)
              clear hK K
              refine norm_ (a' := ?_) ?_ ?_
              rotate_left
              · show Act.put _ (some 15) _ = _
                simp only [Act.put, List.setIfInBounds_toArray, List.set_cons_zero, List.set_cons_succ, i64_w, i32_w]
                rfl
              exact norm_ (by simp only [putAll, Act.put, List.setIfInBounds_toArray, List.set_cons_zero, List.set_cons_succ]) (hCont (.slice Ao123 t295.length co123, .slice Ao124 t299.length co124, v304, gb307) _ ⟨hHeld, (by (with_reducible repeat (first | apply Kd.R_alloc | apply Kd.R_drewN | apply Kd.R_drew)); exact Kd.R_mono HO248.out (fun _ hk => ⟨hk.1.1.1.1, ⟨hk.1.1.1.2.1, ⟨hk.1.1.1.2.2.1, ⟨hk.1.1.1.2.2.2.1, ⟨hk.1.1.1.2.2.2.2.1, ⟨hk.1.1.1.2.2.2.2.2.1, ⟨hk.1.1.1.2.2.2.2.2.2, ⟨hk.1.1.2, ⟨hk.1.2, hk.2⟩⟩⟩⟩⟩⟩⟩⟩⟩)), (by (with_reducible repeat (first | apply Kd.R_alloc | apply Kd.R_drewN | apply Kd.R_drew)); exact Kd.R_mono HO252.out (fun _ hk => ⟨hk.1.1.1.1, ⟨hk.1.1.1.2.1, ⟨hk.1.1.1.2.2.1, ⟨hk.1.1.1.2.2.2.1, ⟨hk.1.1.1.2.2.2.2.1, ⟨hk.1.1.1.2.2.2.2.2.1, ⟨hk.1.1.1.2.2.2.2.2.2, ⟨hk.1.1.2, ⟨hk.1.2, hk.2⟩⟩⟩⟩⟩⟩⟩⟩⟩)), (by (with_reducible repeat (first | apply Kd.R_alloc | apply Kd.R_drewN | apply Kd.R_drew)); exact Kd.R_mono HO256.out (fun _ hk => ⟨hk.1.1.1.1, ⟨hk.1.1.1.2.1, ⟨hk.1.1.1.2.2.1, ⟨hk.1.1.1.2.2.2.1, ⟨hk.1.1.1.2.2.2.2.1, ⟨hk.1.1.1.2.2.2.2.2.1, ⟨hk.1.1.1.2.2.2.2.2.2, ⟨hk.1.1.2, ⟨hk.1.2, hk.2⟩⟩⟩⟩⟩⟩⟩⟩⟩)), (by (with_reducible repeat (first | apply Kd.R_alloc | apply Kd.R_drewN | apply Kd.R_drew)); exact Kd.R_mono HO262.out (fun _ hk => ⟨hk.1.1.1.1, ⟨hk.1.1.1.2.1, ⟨hk.1.1.1.2.2.1, ⟨hk.1.1.1.2.2.2.1, ⟨hk.1.1.1.2.2.2.2.1, ⟨hk.1.1.1.2.2.2.2.2.1, ⟨hk.1.1.1.2.2.2.2.2.2, ⟨hk.1.1.2, ⟨hk.1.2, hk.2⟩⟩⟩⟩⟩⟩⟩⟩⟩)), (by (with_reducible repeat (first | apply Kd.R_alloc | apply Kd.R_drewN | apply Kd.R_drew)); exact Kd.R_mono HO267.out (fun _ hk => ⟨hk.1.1.1.1, ⟨hk.1.1.1.2.1, ⟨hk.1.1.1.2.2.1, ⟨hk.1.1.1.2.2.2.1, ⟨hk.1.1.1.2.2.2.2.1, ⟨hk.1.1.1.2.2.2.2.2.1, ⟨hk.1.1.1.2.2.2.2.2.2, ⟨hk.1.1.2, ⟨hk.1.2, hk.2⟩⟩⟩⟩⟩⟩⟩⟩⟩)), (by (with_reducible repeat (first | apply Kd.R_alloc | apply Kd.R_drewN | apply Kd.R_drew)); exact Kd.R_mono HO272.out (fun _ hk => ⟨hk.1.1.1.1, ⟨hk.1.1.1.2.1, ⟨hk.1.1.1.2.2.1, ⟨hk.1.1.1.2.2.2.1, ⟨hk.1.1.1.2.2.2.2.1, ⟨hk.1.1.1.2.2.2.2.2.1, ⟨hk.1.1.1.2.2.2.2.2.2, ⟨hk.1.1.2, ⟨hk.1.2, hk.2⟩⟩⟩⟩⟩⟩⟩⟩⟩)), (by (with_reducible repeat (first | apply Kd.R_alloc | apply Kd.R_drewN | apply Kd.R_drew)); exact Kd.R_mono HO279.out (fun _ hk => ⟨hk.1.1.1.1, ⟨hk.1.1.1.2.1, ⟨hk.1.1.1.2.2.1, ⟨hk.1.1.1.2.2.2.1, ⟨hk.1.1.1.2.2.2.2.1, ⟨hk.1.1.1.2.2.2.2.2.1, ⟨hk.1.1.1.2.2.2.2.2.2, ⟨hk.1.1.2, ⟨hk.1.2, hk.2⟩⟩⟩⟩⟩⟩⟩⟩⟩)), (by (with_reducible repeat (first | apply Kd.R_alloc | apply Kd.R_drewN | apply Kd.R_drew)); exact Kd.R_mono HO284.out (fun _ hk => ⟨hk.1.1.1.1, ⟨hk.1.1.1.2.1, ⟨hk.1.1.1.2.2.1, ⟨hk.1.1.1.2.2.2.1, ⟨hk.1.1.1.2.2.2.2.1, ⟨hk.1.1.1.2.2.2.2.2.1, ⟨hk.1.1.1.2.2.2.2.2.2, ⟨hk.1.1.2, ⟨hk.1.2, hk.2⟩⟩⟩⟩⟩⟩⟩⟩⟩)), (by (with_reducible repeat (first | apply Kd.R_alloc | apply Kd.R_drewN | apply Kd.R_drew)); exact Kd.R_mono HO297.out (fun _ hk => ⟨hk.1.1.1.1.1.1.1.1.1.2, ⟨hk.1.1.1.1.1.1.1.1.2, ⟨hk.1.1.1.1.1.1.1.2, ⟨hk.1.1.1.1.1.1.2, ⟨hk.1.1.1.1.1.2, ⟨hk.1.1.1.1.2, ⟨hk.1.1.1.2, ⟨hk.1.1.2, ⟨hk.1.2, hk.2⟩⟩⟩⟩⟩⟩⟩⟩⟩)), (by (with_reducible repeat (first | apply Kd.R_alloc | apply Kd.R_drewN | apply Kd.R_drew)); exact Kd.R_mono HO301.out (fun _ hk => ⟨hk.1.1.1.1.1.1.1.1.1.2, ⟨hk.1.1.1.1.1.1.1.1.2, ⟨hk.1.1.1.1.1.1.1.2, ⟨hk.1.1.1.1.1.1.2, ⟨hk.1.1.1.1.1.2, ⟨hk.1.1.1.1.2, ⟨hk.1.1.1.2, ⟨hk.1.1.2, ⟨hk.1.2, hk.2⟩⟩⟩⟩⟩⟩⟩⟩⟩)), (by (with_reducible repeat (first | apply Kd.R_alloc | apply Kd.R_drewN | apply Kd.R_drew)); exact Kd.R_mono HO305.out (fun _ hk => ⟨hk.1.1.1.1.1.1.1.1.1.2, ⟨hk.1.1.1.1.1.1.1.1.2, ⟨hk.1.1.1.1.1.1.1.2, ⟨hk.1.1.1.1.1.1.2, ⟨hk.1.1.1.1.1.2, ⟨hk.1.1.1.1.2, ⟨hk.1.1.1.2, ⟨hk.1.1.2, ⟨hk.1.2, hk.2⟩⟩⟩⟩⟩⟩⟩⟩⟩)), (pk BK241.out), (pk BK242.out), (pk BK258.out), (pk BK263.out), (pk BK268.out), (pk BK274.out), (pk BK307.out), GW307.out, GE307.out, NB241_307.out, NB307_241.out, NB242_307.out, NB307_242.out, NB258_307.out, NB307_258.out, NB263_307.out, NB307_263.out, NB268_307.out, NB307_268.out, NB274_307.out, NB307_274.out, (bks HB.out)⟩)
            · skip
              refine box_step ?hg (N := 15) ?hd (cs := #[.int .i64 0, .slice none 0 0]) (t := 24) ?hr ?_; (case hd => rfl); (case hg => rfl); (case hr => first | (go_simp; done) | (go_simp; rfl))
              intro gb307 hg w123 hbox hb
              have n0_ := Aside0.mk (Kd.R_below (rk HO248.out) hb)
              have n1_ := Aside0.mk (Kd.R_below (rk HO252.out) hb)
              have n2_ := Aside0.mk (Kd.R_below (rk HO256.out) hb)
              have n3_ := Aside0.mk (Kd.R_below (rk HO262.out) hb)
              have n4_ := Aside0.mk (Kd.R_below (rk HO267.out) hb)
              have n5_ := Aside0.mk (Kd.R_below (rk HO272.out) hb)
              have n6_ := Aside0.mk (Kd.R_below (rk HO279.out) hb)
              have n7_ := Aside0.mk (Kd.R_below (rk HO284.out) hb)
              have n8_ := Aside0.mk (Kd.R_below (rk HO297.out) hb)
              have n9_ := Aside0.mk (Kd.R_below (rk HO301.out) hb)
              have n10_ := Aside0.mk (blk_below (pk BK241.out) hb)
              have n11_ := Aside0.mk (blk_below (pk BK242.out) hb)
              have n12_ := Aside0.mk (blk_below (pk BK258.out) hb)
              have n13_ := Aside0.mk (blk_below (pk BK263.out) hb)
              have n14_ := Aside0.mk (blk_below (pk BK268.out) hb)
              have n15_ := Aside0.mk (blk_below (pk BK274.out) hb)
              have n16_ := Aside0.mk (below_step (bks HB.out) hb)
              have n17_ := Aside0.mk (hbox)
              have n18_ := Aside0.mk ((by rw [hg]; exact (below_size (bks HB.out)) : w.heap.size ≤ gb307))
              have n19_ := Aside0.mk ((by rw [hg]; exact (below_size (bks HB.out)) : w.heap.size ≤ gb307))
              have n20_ := Aside0.mk ((by rw [hg]; exact Nat.ne_of_lt (blk_lt (g := gb241) (o := .cells #[.int .i64 a0_0, .slice A0_1 l0_1.length c0_1] 32 (0, 0)) (pk BK241.out)) : gb241 ≠ gb307))
              have n21_ := Aside0.mk ((by rw [hg]; exact Nat.ne_of_gt (blk_lt (g := gb241) (o := .cells #[.int .i64 a0_0, .slice A0_1 l0_1.length c0_1] 32 (0, 0)) (pk BK241.out)) : gb307 ≠ gb241))
              have n22_ := Aside0.mk ((by rw [hg]; exact Nat.ne_of_lt (blk_lt (g := gb242) (o := .cells #[.int .i64 a1_0, .slice A1_1 l1_1.length c1_1] 32 (0, 0)) (pk BK242.out)) : gb242 ≠ gb307))
              have n23_ := Aside0.mk ((by rw [hg]; exact Nat.ne_of_gt (blk_lt (g := gb242) (o := .cells #[.int .i64 a1_0, .slice A1_1 l1_1.length c1_1] 32 (0, 0)) (pk BK242.out)) : gb307 ≠ gb242))
              have n24_ := Aside0.mk ((by rw [hg]; exact Nat.ne_of_lt (blk_lt (g := gb258) (o := .cells #[.int .i64 t253, .slice Ao68 t254.length co68] 24 (0, 0)) (pk BK258.out)) : gb258 ≠ gb307))
              have n25_ := Aside0.mk ((by rw [hg]; exact Nat.ne_of_gt (blk_lt (g := gb258) (o := .cells #[.int .i64 t253, .slice Ao68 t254.length co68] 24 (0, 0)) (pk BK258.out)) : gb307 ≠ gb258))
              have n26_ := Aside0.mk ((by rw [hg]; exact Nat.ne_of_lt (blk_lt (g := gb263) (o := .cells #[.int .i64 t259, .slice Ao78 t260.length co78] 24 (0, 0)) (pk BK263.out)) : gb263 ≠ gb307))
              have n27_ := Aside0.mk ((by rw [hg]; exact Nat.ne_of_gt (blk_lt (g := gb263) (o := .cells #[.int .i64 t259, .slice Ao78 t260.length co78] 24 (0, 0)) (pk BK263.out)) : gb307 ≠ gb263))
              have n28_ := Aside0.mk ((by rw [hg]; exact Nat.ne_of_lt (blk_lt (g := gb268) (o := .cells #[.int .i64 t264, .slice Ao88 t265.length co88] 24 (0, 0)) (pk BK268.out)) : gb268 ≠ gb307))
              have n29_ := Aside0.mk ((by rw [hg]; exact Nat.ne_of_gt (blk_lt (g := gb268) (o := .cells #[.int .i64 t264, .slice Ao88 t265.length co88] 24 (0, 0)) (pk BK268.out)) : gb307 ≠ gb268))
              have n30_ := Aside0.mk ((by rw [hg]; exact Nat.ne_of_lt (blk_lt (g := gb274) (o := .cells #[.int .i64 t269, .slice Ao98 t270.length co98] 24 (0, 0)) (pk BK274.out)) : gb274 ≠ gb307))
              have n31_ := Aside0.mk ((by rw [hg]; exact Nat.ne_of_gt (blk_lt (g := gb274) (o := .cells #[.int .i64 t269, .slice Ao98 t270.length co98] 24 (0, 0)) (pk BK274.out)) : gb307 ≠ gb274))
              clear HO248 HO252 HO256 HO262 HO267 HO272 HO279 HO284 HO297 HO301 BK241 BK242 BK258 BK263 BK268 BK274 HB
              have HO248 := n0_
              have HO252 := n1_
              have HO256 := n2_
              have HO262 := n3_
              have HO267 := n4_
              have HO272 := n5_
              have HO279 := n6_
              have HO284 := n7_
              have HO297 := n8_
              have HO301 := n9_
              have BK241 := n10_
              have BK242 := n11_
              have BK258 := n12_
              have BK263 := n13_
              have BK268 := n14_
              have BK274 := n15_
              have HB := n16_
              have BK307 := n17_
              have GW307 := n18_
              have GE307 := n19_
              have NB241_307 := n20_
              have NB307_241 := n21_
              have NB242_307 := n22_
              have NB307_242 := n23_
              have NB258_307 := n24_
              have NB307_258 := n25_
              have NB263_307 := n26_
              have NB307_263 := n27_
              have NB268_307 := n28_
              have NB307_268 := n29_
              have NB274_307 := n30_
              have NB307_274 := n31_
              clear n0_ n1_ n2_ n3_ n4_ n5_ n6_ n7_ n8_ n9_ n10_ n11_ n12_ n13_ n14_ n15_ n16_ n17_ n18_ n19_ n20_ n21_ n22_ n23_ n24_ n25_ n26_ n27_ n28_ n29_ n30_ n31_ hb hbox hg
              obtain ⟨Ao124, co124, eo124⟩ := Kd.R_slice HO297.out
              (first | subst eo124 | (injection eo124 with f1_ f2_ f3_; have f4_ := f1_.symm; have f5_ := f3_.symm; clear f1_ f2_ f3_; subst f4_; subst f5_))
              obtain ⟨Ao125, co125, eo125⟩ := Kd.R_slice HO301.out
              (first | subst eo125 | (injection eo125 with f1_ f2_ f3_; have f4_ := f1_.symm; have f5_ := f3_.symm; clear f1_ f2_ f3_; subst f4_; subst f5_))
              refine hK.out _ _ ⟨(blk_cell BK241.out 0).trans rfl, (blk_cell BK241.out 1).trans rfl, (blk_cell BK242.out 0).trans rfl, (blk_cell BK242.out 1).trans rfl⟩ (fun hHeld => ?_)
              clear hK K
              refine norm_ (a' := ?_) ?_ ?_
              rotate_left
              · show Act.put _ (some 15) _ = _
                simp only [Act.put, List.setIfInBounds_toArray, List.set_cons_zero, List.set_cons_succ, i64_w, i32_w]
                rfl
              refine one_ (i := 4) (N := some 99) #[true, true, true, true, true, false, false, false, true, false, false] rfl rfl (one_of HT_.out (by kernel_rfl)) (by decide) (fun K hK => ?_)
              refine goes_ Try.func28 (by kernel_rfl) rfl #[.agg #[.int .i64 t294, .slice Ao124 t295.length co124], .agg #[.int .i64 t298, .slice Ao125 t299.length co125]] (by rfl) rfl rfl (by (try simp only [List.map_toArray, List.map_cons, List.map_nil]); first | done | rfl | (simp only [List.length_drop, List.length_take]; rfl)) ?_
              with_reducible refine (impl_MultiplyRings.calls k t294 _ _ t295 t298 _ _ t299 t302 t303 t306 _ ?side1 ?side2 ?side3 ?side4 A45.out).mono ?_
              (case side1 => repeat (first | exact (Kd.R_reads' HO297.out).2.2 | (with_reducible refine Kd.C_alloc ?_ _) | (with_reducible refine Kd.C_drewN ?_ _) | (with_reducible refine Kd.C_drew ?_)))
              (case side2 => exact (Kd.R_reads' HO297.out).2.1)
              (case side3 => repeat (first | exact (Kd.R_reads' HO301.out).2.2 | (with_reducible refine Kd.C_alloc ?_ _) | (with_reducible refine Kd.C_drewN ?_ _) | (with_reducible refine Kd.C_drew ?_)))
              (case side4 => exact (Kd.R_reads' HO301.out).2.1)
              rintro e w126 ⟨v304, rfl, ho0, hb⟩
              refine ⟨_, rfl, ?_⟩
              have n0_ := Aside0.mk (Kd.R_elder' (rk HO248.out) (Kd.R_base ho0) hb)
              have n1_ := Aside0.mk (Kd.R_elder' (rk HO252.out) (Kd.R_base ho0) hb)
              have n2_ := Aside0.mk (Kd.R_elder' (rk HO256.out) (Kd.R_base ho0) hb)
              have n3_ := Aside0.mk (Kd.R_elder' (rk HO262.out) (Kd.R_base ho0) hb)
              have n4_ := Aside0.mk (Kd.R_elder' (rk HO267.out) (Kd.R_base ho0) hb)
              have n5_ := Aside0.mk (Kd.R_elder' (rk HO272.out) (Kd.R_base ho0) hb)
              have n6_ := Aside0.mk (Kd.R_elder' (rk HO279.out) (Kd.R_base ho0) hb)
              have n7_ := Aside0.mk (Kd.R_elder' (rk HO284.out) (Kd.R_base ho0) hb)
              have n8_ := Aside0.mk (Kd.R_elder' (rk HO297.out) (Kd.R_base ho0) hb)
              have n9_ := Aside0.mk (Kd.R_elder' (rk HO301.out) (Kd.R_base ho0) hb)
              have n10_ := Aside0.mk (Kd.R_lower (Kd.R_new' (Kd.R_new' (Kd.R_new' (Kd.R_new' (Kd.R_new' (Kd.R_new' (Kd.R_new' (Kd.R_new' (Kd.R_new' (Kd.R_new' ho0 (Kd.R_lt (rk HO248.out))) (Kd.R_lt (rk HO252.out))) (Kd.R_lt (rk HO256.out))) (Kd.R_lt (rk HO262.out))) (Kd.R_lt (rk HO267.out))) (Kd.R_lt (rk HO272.out))) (Kd.R_lt (rk HO279.out))) (Kd.R_lt (rk HO284.out))) (Kd.R_lt (rk HO297.out))) (Kd.R_lt (rk HO301.out))) (below_size (bks HB.out)))
              have n11_ := Aside0.mk (blk_below (pk BK241.out) hb)
              have n12_ := Aside0.mk (blk_below (pk BK242.out) hb)
              have n13_ := Aside0.mk (blk_below (pk BK258.out) hb)
              have n14_ := Aside0.mk (blk_below (pk BK263.out) hb)
              have n15_ := Aside0.mk (blk_below (pk BK268.out) hb)
              have n16_ := Aside0.mk (blk_below (pk BK274.out) hb)
              have n17_ := Aside0.mk (blk_below (pk BK307.out) hb)
              have n18_ := Aside0.mk (below_step (bks HB.out) hb)
              clear HO248 HO252 HO256 HO262 HO267 HO272 HO279 HO284 HO297 HO301 BK241 BK242 BK258 BK263 BK268 BK274 BK307 HB
              have HO248 := n0_
              have HO252 := n1_
              have HO256 := n2_
              have HO262 := n3_
              have HO267 := n4_
              have HO272 := n5_
              have HO279 := n6_
              have HO284 := n7_
              have HO297 := n8_
              have HO301 := n9_
              have HO305 := n10_
              have BK241 := n11_
              have BK242 := n12_
              have BK258 := n13_
              have BK263 := n14_
              have BK268 := n15_
              have BK274 := n16_
              have BK307 := n17_
              have HB := n18_
              clear n0_ n1_ n2_ n3_ n4_ n5_ n6_ n7_ n8_ n9_ n10_ n11_ n12_ n13_ n14_ n15_ n16_ n17_ n18_
              (try clear hb)
              (try clear hb2)
              (try clear hk)
              (try clear hi)
              (try clear ho0)
              refine hK.out _ _ ⟨(blk_cell BK241.out 0).trans rfl, (blk_cell BK241.out 1).trans rfl, (blk_cell BK242.out 0).trans rfl, (blk_cell BK242.out 1).trans rfl⟩ (fun hHeld => ?_)
              clear hK K
              refine norm_ (a' := ?_) ?_ ?_
              rotate_left
              · show Act.put _ (some 99) _ = _
                simp only [Act.put, List.setIfInBounds_toArray, List.set_cons_zero, List.set_cons_succ, i64_w, i32_w]
                rfl
              refine pure_ (i := 5) (N := some 94) (v := ?_) (a' := ?_) #[true, true, true, true, true, true, false, false, true, false, false] rfl rfl (any_of HT_.out (by kernel_rfl)) (fun _ _ _ h => h) (Or.inl ⟨by rfl, ?_⟩) ?_ ?_
              rotate_left
              · intro w'
                go_simp
                with_reducible rfl
              rotate_left
              · simp only [Act.put, List.setIfInBounds_toArray, List.set_cons_zero, List.set_cons_succ, i64_w, i32_w]
                rfl
              refine pure_ (i := 6) (N := some 100) (v := ?_) (a' := ?_) #[true, true, true, true, true, true, true, false, true, false, false] rfl rfl (any_of HT_.out (by kernel_rfl)) (fun _ _ _ h => h) (Or.inl ⟨by rfl, ?_⟩) ?_ ?_
              rotate_left
              · intro w'
                go_simp
                with_reducible rfl
              rotate_left
              · simp only [Act.put, List.setIfInBounds_toArray, List.set_cons_zero, List.set_cons_succ, i64_w, i32_w]
                rfl
              refine pure_ (i := 7) (N := some 101) (v := ?_) (a' := ?_) #[true, true, true, true, true, true, true, true, true, false, false] rfl rfl (any_of HT_.out (by kernel_rfl)) (fun _ _ _ h => h) (Or.inl ⟨by rfl, ?_⟩) ?_ ?_
              rotate_left
              · intro w'
                go_simp
                with_reducible rfl
              rotate_left
              · simp only [Act.put, List.setIfInBounds_toArray, List.set_cons_zero, List.set_cons_succ, i64_w, i32_w]
                rfl
              exact norm_ (by simp only [putAll, Act.put, List.setIfInBounds_toArray, List.set_cons_zero, List.set_cons_succ]) (hCont (.slice Ao124 t295.length co124, .slice Ao125 t299.length co125, v304, gb307) _ ⟨hHeld, (by (with_reducible repeat (first | apply Kd.R_alloc | apply Kd.R_drewN | apply Kd.R_drew)); exact Kd.R_mono HO248.out (fun _ hk => ⟨hk.1.1.1.1, ⟨hk.1.1.1.2.1, ⟨hk.1.1.1.2.2.1, ⟨hk.1.1.1.2.2.2.1, ⟨hk.1.1.1.2.2.2.2.1, ⟨hk.1.1.1.2.2.2.2.2.1, ⟨hk.1.1.1.2.2.2.2.2.2, ⟨hk.1.1.2, ⟨hk.1.2, hk.2⟩⟩⟩⟩⟩⟩⟩⟩⟩)), (by (with_reducible repeat (first | apply Kd.R_alloc | apply Kd.R_drewN | apply Kd.R_drew)); exact Kd.R_mono HO252.out (fun _ hk => ⟨hk.1.1.1.1, ⟨hk.1.1.1.2.1, ⟨hk.1.1.1.2.2.1, ⟨hk.1.1.1.2.2.2.1, ⟨hk.1.1.1.2.2.2.2.1, ⟨hk.1.1.1.2.2.2.2.2.1, ⟨hk.1.1.1.2.2.2.2.2.2, ⟨hk.1.1.2, ⟨hk.1.2, hk.2⟩⟩⟩⟩⟩⟩⟩⟩⟩)), (by (with_reducible repeat (first | apply Kd.R_alloc | apply Kd.R_drewN | apply Kd.R_drew)); exact Kd.R_mono HO256.out (fun _ hk => ⟨hk.1.1.1.1, ⟨hk.1.1.1.2.1, ⟨hk.1.1.1.2.2.1, ⟨hk.1.1.1.2.2.2.1, ⟨hk.1.1.1.2.2.2.2.1, ⟨hk.1.1.1.2.2.2.2.2.1, ⟨hk.1.1.1.2.2.2.2.2.2, ⟨hk.1.1.2, ⟨hk.1.2, hk.2⟩⟩⟩⟩⟩⟩⟩⟩⟩)), (by (with_reducible repeat (first | apply Kd.R_alloc | apply Kd.R_drewN | apply Kd.R_drew)); exact Kd.R_mono HO262.out (fun _ hk => ⟨hk.1.1.1.1, ⟨hk.1.1.1.2.1, ⟨hk.1.1.1.2.2.1, ⟨hk.1.1.1.2.2.2.1, ⟨hk.1.1.1.2.2.2.2.1, ⟨hk.1.1.1.2.2.2.2.2.1, ⟨hk.1.1.1.2.2.2.2.2.2, ⟨hk.1.1.2, ⟨hk.1.2, hk.2⟩⟩⟩⟩⟩⟩⟩⟩⟩)), (by (with_reducible repeat (first | apply Kd.R_alloc | apply Kd.R_drewN | apply Kd.R_drew)); exact Kd.R_mono HO267.out (fun _ hk => ⟨hk.1.1.1.1, ⟨hk.1.1.1.2.1, ⟨hk.1.1.1.2.2.1, ⟨hk.1.1.1.2.2.2.1, ⟨hk.1.1.1.2.2.2.2.1, ⟨hk.1.1.1.2.2.2.2.2.1, ⟨hk.1.1.1.2.2.2.2.2.2, ⟨hk.1.1.2, ⟨hk.1.2, hk.2⟩⟩⟩⟩⟩⟩⟩⟩⟩)), (by (with_reducible repeat (first | apply Kd.R_alloc | apply Kd.R_drewN | apply Kd.R_drew)); exact Kd.R_mono HO272.out (fun _ hk => ⟨hk.1.1.1.1, ⟨hk.1.1.1.2.1, ⟨hk.1.1.1.2.2.1, ⟨hk.1.1.1.2.2.2.1, ⟨hk.1.1.1.2.2.2.2.1, ⟨hk.1.1.1.2.2.2.2.2.1, ⟨hk.1.1.1.2.2.2.2.2.2, ⟨hk.1.1.2, ⟨hk.1.2, hk.2⟩⟩⟩⟩⟩⟩⟩⟩⟩)), (by (with_reducible repeat (first | apply Kd.R_alloc | apply Kd.R_drewN | apply Kd.R_drew)); exact Kd.R_mono HO279.out (fun _ hk => ⟨hk.1.1.1.1, ⟨hk.1.1.1.2.1, ⟨hk.1.1.1.2.2.1, ⟨hk.1.1.1.2.2.2.1, ⟨hk.1.1.1.2.2.2.2.1, ⟨hk.1.1.1.2.2.2.2.2.1, ⟨hk.1.1.1.2.2.2.2.2.2, ⟨hk.1.1.2, ⟨hk.1.2, hk.2⟩⟩⟩⟩⟩⟩⟩⟩⟩)), (by (with_reducible repeat (first | apply Kd.R_alloc | apply Kd.R_drewN | apply Kd.R_drew)); exact Kd.R_mono HO284.out (fun _ hk => ⟨hk.1.1.1.1, ⟨hk.1.1.1.2.1, ⟨hk.1.1.1.2.2.1, ⟨hk.1.1.1.2.2.2.1, ⟨hk.1.1.1.2.2.2.2.1, ⟨hk.1.1.1.2.2.2.2.2.1, ⟨hk.1.1.1.2.2.2.2.2.2, ⟨hk.1.1.2, ⟨hk.1.2, hk.2⟩⟩⟩⟩⟩⟩⟩⟩⟩)), (by (with_reducible repeat (first | apply Kd.R_alloc | apply Kd.R_drewN | apply Kd.R_drew)); exact Kd.R_mono HO297.out (fun _ hk => ⟨hk.1.1.1.1.1.1.1.1.1.2, ⟨hk.1.1.1.1.1.1.1.1.2, ⟨hk.1.1.1.1.1.1.1.2, ⟨hk.1.1.1.1.1.1.2, ⟨hk.1.1.1.1.1.2, ⟨hk.1.1.1.1.2, ⟨hk.1.1.1.2, ⟨hk.1.1.2, ⟨hk.1.2, hk.2⟩⟩⟩⟩⟩⟩⟩⟩⟩)), (by (with_reducible repeat (first | apply Kd.R_alloc | apply Kd.R_drewN | apply Kd.R_drew)); exact Kd.R_mono HO301.out (fun _ hk => ⟨hk.1.1.1.1.1.1.1.1.1.2, ⟨hk.1.1.1.1.1.1.1.1.2, ⟨hk.1.1.1.1.1.1.1.2, ⟨hk.1.1.1.1.1.1.2, ⟨hk.1.1.1.1.1.2, ⟨hk.1.1.1.1.2, ⟨hk.1.1.1.2, ⟨hk.1.1.2, ⟨hk.1.2, hk.2⟩⟩⟩⟩⟩⟩⟩⟩⟩)), (by (with_reducible repeat (first | apply Kd.R_alloc | apply Kd.R_drewN | apply Kd.R_drew)); exact Kd.R_mono HO305.out (fun _ hk => ⟨hk.1.1.1.1.1.1.1.1.1.2, ⟨hk.1.1.1.1.1.1.1.1.2, ⟨hk.1.1.1.1.1.1.1.2, ⟨hk.1.1.1.1.1.1.2, ⟨hk.1.1.1.1.1.2, ⟨hk.1.1.1.1.2, ⟨hk.1.1.1.2, ⟨hk.1.1.2, ⟨hk.1.2, hk.2⟩⟩⟩⟩⟩⟩⟩⟩⟩)), (pk BK241.out), (pk BK242.out), (pk BK258.out), (pk BK263.out), (pk BK268.out), (pk BK274.out), (pk BK307.out), GW307.out, GE307.out, NB241_307.out, NB307_241.out, NB242_307.out, NB307_242.out, NB258_307.out, NB307_258.out, NB263_307.out, NB307_263.out, NB268_307.out, NB307_268.out, NB274_307.out, NB307_274.out, (bks HB.out)⟩)
          · skip
            refine box_step ?hg (N := 15) ?hd (cs := #[.int .i64 0, .slice none 0 0]) (t := 24) ?hr ?_; (case hd => rfl); (case hg => rfl); (case hr => first | (go_simp; done) | (go_simp; rfl))
            intro gb307 hg w122 hbox hb
            have n0_ := Aside0.mk (Kd.R_below (rk HO248.out) hb)
            have n1_ := Aside0.mk (Kd.R_below (rk HO252.out) hb)
            have n2_ := Aside0.mk (Kd.R_below (rk HO256.out) hb)
            have n3_ := Aside0.mk (Kd.R_below (rk HO262.out) hb)
            have n4_ := Aside0.mk (Kd.R_below (rk HO267.out) hb)
            have n5_ := Aside0.mk (Kd.R_below (rk HO272.out) hb)
            have n6_ := Aside0.mk (Kd.R_below (rk HO279.out) hb)
            have n7_ := Aside0.mk (Kd.R_below (rk HO284.out) hb)
            have n8_ := Aside0.mk (Kd.R_below (rk HO297.out) hb)
            have n9_ := Aside0.mk (blk_below (pk BK241.out) hb)
            have n10_ := Aside0.mk (blk_below (pk BK242.out) hb)
            have n11_ := Aside0.mk (blk_below (pk BK258.out) hb)
            have n12_ := Aside0.mk (blk_below (pk BK263.out) hb)
            have n13_ := Aside0.mk (blk_below (pk BK268.out) hb)
            have n14_ := Aside0.mk (blk_below (pk BK274.out) hb)
            have n15_ := Aside0.mk (below_step (bks HB.out) hb)
            have n16_ := Aside0.mk (hbox)
            have n17_ := Aside0.mk ((by rw [hg]; exact (below_size (bks HB.out)) : w.heap.size ≤ gb307))
            have n18_ := Aside0.mk ((by rw [hg]; exact (below_size (bks HB.out)) : w.heap.size ≤ gb307))
            have n19_ := Aside0.mk ((by rw [hg]; exact Nat.ne_of_lt (blk_lt (g := gb241) (o := .cells #[.int .i64 a0_0, .slice A0_1 l0_1.length c0_1] 32 (0, 0)) (pk BK241.out)) : gb241 ≠ gb307))
            have n20_ := Aside0.mk ((by rw [hg]; exact Nat.ne_of_gt (blk_lt (g := gb241) (o := .cells #[.int .i64 a0_0, .slice A0_1 l0_1.length c0_1] 32 (0, 0)) (pk BK241.out)) : gb307 ≠ gb241))
            have n21_ := Aside0.mk ((by rw [hg]; exact Nat.ne_of_lt (blk_lt (g := gb242) (o := .cells #[.int .i64 a1_0, .slice A1_1 l1_1.length c1_1] 32 (0, 0)) (pk BK242.out)) : gb242 ≠ gb307))
            have n22_ := Aside0.mk ((by rw [hg]; exact Nat.ne_of_gt (blk_lt (g := gb242) (o := .cells #[.int .i64 a1_0, .slice A1_1 l1_1.length c1_1] 32 (0, 0)) (pk BK242.out)) : gb307 ≠ gb242))
            have n23_ := Aside0.mk ((by rw [hg]; exact Nat.ne_of_lt (blk_lt (g := gb258) (o := .cells #[.int .i64 t253, .slice Ao68 t254.length co68] 24 (0, 0)) (pk BK258.out)) : gb258 ≠ gb307))
            have n24_ := Aside0.mk ((by rw [hg]; exact Nat.ne_of_gt (blk_lt (g := gb258) (o := .cells #[.int .i64 t253, .slice Ao68 t254.length co68] 24 (0, 0)) (pk BK258.out)) : gb307 ≠ gb258))
            have n25_ := Aside0.mk ((by rw [hg]; exact Nat.ne_of_lt (blk_lt (g := gb263) (o := .cells #[.int .i64 t259, .slice Ao78 t260.length co78] 24 (0, 0)) (pk BK263.out)) : gb263 ≠ gb307))
            have n26_ := Aside0.mk ((by rw [hg]; exact Nat.ne_of_gt (blk_lt (g := gb263) (o := .cells #[.int .i64 t259, .slice Ao78 t260.length co78] 24 (0, 0)) (pk BK263.out)) : gb307 ≠ gb263))
            have n27_ := Aside0.mk ((by rw [hg]; exact Nat.ne_of_lt (blk_lt (g := gb268) (o := .cells #[.int .i64 t264, .slice Ao88 t265.length co88] 24 (0, 0)) (pk BK268.out)) : gb268 ≠ gb307))
            have n28_ := Aside0.mk ((by rw [hg]; exact Nat.ne_of_gt (blk_lt (g := gb268) (o := .cells #[.int .i64 t264, .slice Ao88 t265.length co88] 24 (0, 0)) (pk BK268.out)) : gb307 ≠ gb268))
            have n29_ := Aside0.mk ((by rw [hg]; exact Nat.ne_of_lt (blk_lt (g := gb274) (o := .cells #[.int .i64 t269, .slice Ao98 t270.length co98] 24 (0, 0)) (pk BK274.out)) : gb274 ≠ gb307))
            have n30_ := Aside0.mk ((by rw [hg]; exact Nat.ne_of_gt (blk_lt (g := gb274) (o := .cells #[.int .i64 t269, .slice Ao98 t270.length co98] 24 (0, 0)) (pk BK274.out)) : gb307 ≠ gb274))
            clear HO248 HO252 HO256 HO262 HO267 HO272 HO279 HO284 HO297 BK241 BK242 BK258 BK263 BK268 BK274 HB
            have HO248 := n0_
            have HO252 := n1_
            have HO256 := n2_
            have HO262 := n3_
            have HO267 := n4_
            have HO272 := n5_
            have HO279 := n6_
            have HO284 := n7_
            have HO297 := n8_
            have BK241 := n9_
            have BK242 := n10_
            have BK258 := n11_
            have BK263 := n12_
            have BK268 := n13_
            have BK274 := n14_
            have HB := n15_
            have BK307 := n16_
            have GW307 := n17_
            have GE307 := n18_
            have NB241_307 := n19_
            have NB307_241 := n20_
            have NB242_307 := n21_
            have NB307_242 := n22_
            have NB258_307 := n23_
            have NB307_258 := n24_
            have NB263_307 := n25_
            have NB307_263 := n26_
            have NB268_307 := n27_
            have NB307_268 := n28_
            have NB274_307 := n29_
            have NB307_274 := n30_
            clear n0_ n1_ n2_ n3_ n4_ n5_ n6_ n7_ n8_ n9_ n10_ n11_ n12_ n13_ n14_ n15_ n16_ n17_ n18_ n19_ n20_ n21_ n22_ n23_ n24_ n25_ n26_ n27_ n28_ n29_ n30_ hb hbox hg
            refine hK.out _ _ ⟨(blk_cell BK241.out 0).trans rfl, (blk_cell BK241.out 1).trans rfl, (blk_cell BK242.out 0).trans rfl, (blk_cell BK242.out 1).trans rfl⟩ (fun hHeld => ?_)
            clear hK K
            refine norm_ (a' := ?_) ?_ ?_
            rotate_left
            · show Act.put _ (some 15) _ = _
              simp only [Act.put, List.setIfInBounds_toArray, List.set_cons_zero, List.set_cons_succ, i64_w, i32_w]
              rfl
            refine one_ (i := 3) (N := some 98) #[true, true, true, true, false, false, false, false, true, false, false] rfl rfl (one_of HT_.out (by kernel_rfl)) (by decide) (fun K hK => ?_)
            refine goes_ Try.func21 (by kernel_rfl) rfl #[.agg #[.int .i64 a1_0, .slice A1_1 l1_1.length c1_1]] (by rfl) rfl rfl (by (try simp only [List.map_toArray, List.map_cons, List.map_nil]); first | done | rfl | (simp only [List.length_drop, List.length_take]; rfl)) ?_
            with_reducible refine (laws_toRing.calls k a1_0 _ _ l1_1 t298 t299 _ ?side1 ?side2 A44.out).mono ?_
            (case side1 => repeat (first | exact (Kd.C_below HR1_1.out HB.out) | (with_reducible refine Kd.C_alloc ?_ _) | (with_reducible refine Kd.C_drewN ?_ _) | (with_reducible refine Kd.C_drew ?_)))
            (case side2 => exact HC1_1.out)
            rintro e w123 ⟨v300, rfl, ho0, hb⟩
            refine ⟨_, rfl, ?_⟩
            have n0_ := Aside0.mk (Kd.R_elder' (rk HO248.out) (Kd.R_base ho0) hb)
            have n1_ := Aside0.mk (Kd.R_elder' (rk HO252.out) (Kd.R_base ho0) hb)
            have n2_ := Aside0.mk (Kd.R_elder' (rk HO256.out) (Kd.R_base ho0) hb)
            have n3_ := Aside0.mk (Kd.R_elder' (rk HO262.out) (Kd.R_base ho0) hb)
            have n4_ := Aside0.mk (Kd.R_elder' (rk HO267.out) (Kd.R_base ho0) hb)
            have n5_ := Aside0.mk (Kd.R_elder' (rk HO272.out) (Kd.R_base ho0) hb)
            have n6_ := Aside0.mk (Kd.R_elder' (rk HO279.out) (Kd.R_base ho0) hb)
            have n7_ := Aside0.mk (Kd.R_elder' (rk HO284.out) (Kd.R_base ho0) hb)
            have n8_ := Aside0.mk (Kd.R_elder' (rk HO297.out) (Kd.R_base ho0) hb)
            have n9_ := Aside0.mk (Kd.R_lower (Kd.R_new' (Kd.R_new' (Kd.R_new' (Kd.R_new' (Kd.R_new' (Kd.R_new' (Kd.R_new' (Kd.R_new' (Kd.R_new' ho0 (Kd.R_lt (rk HO248.out))) (Kd.R_lt (rk HO252.out))) (Kd.R_lt (rk HO256.out))) (Kd.R_lt (rk HO262.out))) (Kd.R_lt (rk HO267.out))) (Kd.R_lt (rk HO272.out))) (Kd.R_lt (rk HO279.out))) (Kd.R_lt (rk HO284.out))) (Kd.R_lt (rk HO297.out))) (below_size (bks HB.out)))
            have n10_ := Aside0.mk (blk_below (pk BK241.out) hb)
            have n11_ := Aside0.mk (blk_below (pk BK242.out) hb)
            have n12_ := Aside0.mk (blk_below (pk BK258.out) hb)
            have n13_ := Aside0.mk (blk_below (pk BK263.out) hb)
            have n14_ := Aside0.mk (blk_below (pk BK268.out) hb)
            have n15_ := Aside0.mk (blk_below (pk BK274.out) hb)
            have n16_ := Aside0.mk (blk_below (pk BK307.out) hb)
            have n17_ := Aside0.mk (below_step (bks HB.out) hb)
            clear HO248 HO252 HO256 HO262 HO267 HO272 HO279 HO284 HO297 BK241 BK242 BK258 BK263 BK268 BK274 BK307 HB
            have HO248 := n0_
            have HO252 := n1_
            have HO256 := n2_
            have HO262 := n3_
            have HO267 := n4_
            have HO272 := n5_
            have HO279 := n6_
            have HO284 := n7_
            have HO297 := n8_
            have HO301 := n9_
            have BK241 := n10_
            have BK242 := n11_
            have BK258 := n12_
            have BK263 := n13_
            have BK268 := n14_
            have BK274 := n15_
            have BK307 := n16_
            have HB := n17_
            clear n0_ n1_ n2_ n3_ n4_ n5_ n6_ n7_ n8_ n9_ n10_ n11_ n12_ n13_ n14_ n15_ n16_ n17_
            (try clear hb)
            (try clear hb2)
            (try clear hk)
            (try clear hi)
            (try clear ho0)
            obtain ⟨Ao124, co124, eo124⟩ := Kd.R_slice HO297.out
            (first | subst eo124 | (injection eo124 with f1_ f2_ f3_; have f4_ := f1_.symm; have f5_ := f3_.symm; clear f1_ f2_ f3_; subst f4_; subst f5_))
            obtain ⟨Ao125, co125, eo125⟩ := Kd.R_slice HO301.out
            (first | subst eo125 | (injection eo125 with f1_ f2_ f3_; have f4_ := f1_.symm; have f5_ := f3_.symm; clear f1_ f2_ f3_; subst f4_; subst f5_))
            refine hK.out _ _ ⟨(blk_cell BK241.out 0).trans rfl, (blk_cell BK241.out 1).trans rfl, (blk_cell BK242.out 0).trans rfl, (blk_cell BK242.out 1).trans rfl⟩ (fun hHeld => ?_)
            clear hK K
            refine norm_ (a' := ?_) ?_ ?_
            rotate_left
            · show Act.put _ (some 98) _ = _
              simp only [Act.put, List.setIfInBounds_toArray, List.set_cons_zero, List.set_cons_succ, i64_w, i32_w]
              rfl
            refine one_ (i := 4) (N := some 99) #[true, true, true, true, true, false, false, false, true, false, false] rfl rfl (one_of HT_.out (by kernel_rfl)) (by decide) (fun K hK => ?_)
            refine goes_ Try.func28 (by kernel_rfl) rfl #[.agg #[.int .i64 t294, .slice Ao124 t295.length co124], .agg #[.int .i64 t298, .slice Ao125 t299.length co125]] (by rfl) rfl rfl (by (try simp only [List.map_toArray, List.map_cons, List.map_nil]); first | done | rfl | (simp only [List.length_drop, List.length_take]; rfl)) ?_
            with_reducible refine (impl_MultiplyRings.calls k t294 _ _ t295 t298 _ _ t299 t302 t303 t306 _ ?side1 ?side2 ?side3 ?side4 A45.out).mono ?_
            (case side1 => repeat (first | exact (Kd.R_reads' HO297.out).2.2 | (with_reducible refine Kd.C_alloc ?_ _) | (with_reducible refine Kd.C_drewN ?_ _) | (with_reducible refine Kd.C_drew ?_)))
            (case side2 => exact (Kd.R_reads' HO297.out).2.1)
            (case side3 => repeat (first | exact (Kd.R_reads' HO301.out).2.2 | (with_reducible refine Kd.C_alloc ?_ _) | (with_reducible refine Kd.C_drewN ?_ _) | (with_reducible refine Kd.C_drew ?_)))
            (case side4 => exact (Kd.R_reads' HO301.out).2.1)
            rintro e w126 ⟨v304, rfl, ho0, hb⟩
            refine ⟨_, rfl, ?_⟩
            have n0_ := Aside0.mk (Kd.R_elder' (rk HO248.out) (Kd.R_base ho0) hb)
            have n1_ := Aside0.mk (Kd.R_elder' (rk HO252.out) (Kd.R_base ho0) hb)
            have n2_ := Aside0.mk (Kd.R_elder' (rk HO256.out) (Kd.R_base ho0) hb)
            have n3_ := Aside0.mk (Kd.R_elder' (rk HO262.out) (Kd.R_base ho0) hb)
            have n4_ := Aside0.mk (Kd.R_elder' (rk HO267.out) (Kd.R_base ho0) hb)
            have n5_ := Aside0.mk (Kd.R_elder' (rk HO272.out) (Kd.R_base ho0) hb)
            have n6_ := Aside0.mk (Kd.R_elder' (rk HO279.out) (Kd.R_base ho0) hb)
            have n7_ := Aside0.mk (Kd.R_elder' (rk HO284.out) (Kd.R_base ho0) hb)
            have n8_ := Aside0.mk (Kd.R_elder' (rk HO297.out) (Kd.R_base ho0) hb)
            have n9_ := Aside0.mk (Kd.R_elder' (rk HO301.out) (Kd.R_base ho0) hb)
            have n10_ := Aside0.mk (Kd.R_lower (Kd.R_new' (Kd.R_new' (Kd.R_new' (Kd.R_new' (Kd.R_new' (Kd.R_new' (Kd.R_new' (Kd.R_new' (Kd.R_new' (Kd.R_new' ho0 (Kd.R_lt (rk HO248.out))) (Kd.R_lt (rk HO252.out))) (Kd.R_lt (rk HO256.out))) (Kd.R_lt (rk HO262.out))) (Kd.R_lt (rk HO267.out))) (Kd.R_lt (rk HO272.out))) (Kd.R_lt (rk HO279.out))) (Kd.R_lt (rk HO284.out))) (Kd.R_lt (rk HO297.out))) (Kd.R_lt (rk HO301.out))) (below_size (bks HB.out)))
            have n11_ := Aside0.mk (blk_below (pk BK241.out) hb)
            have n12_ := Aside0.mk (blk_below (pk BK242.out) hb)
            have n13_ := Aside0.mk (blk_below (pk BK258.out) hb)
            have n14_ := Aside0.mk (blk_below (pk BK263.out) hb)
            have n15_ := Aside0.mk (blk_below (pk BK268.out) hb)
            have n16_ := Aside0.mk (blk_below (pk BK274.out) hb)
            have n17_ := Aside0.mk (blk_below (pk BK307.out) hb)
            have n18_ := Aside0.mk (below_step (bks HB.out) hb)
            clear HO248 HO252 HO256 HO262 HO267 HO272 HO279 HO284 HO297 HO301 BK241 BK242 BK258 BK263 BK268 BK274 BK307 HB
            have HO248 := n0_
            have HO252 := n1_
            have HO256 := n2_
            have HO262 := n3_
            have HO267 := n4_
            have HO272 := n5_
            have HO279 := n6_
            have HO284 := n7_
            have HO297 := n8_
            have HO301 := n9_
            have HO305 := n10_
            have BK241 := n11_
            have BK242 := n12_
            have BK258 := n13_
            have BK263 := n14_
            have BK268 := n15_
            have BK274 := n16_
            have BK307 := n17_
            have HB := n18_
            clear n0_ n1_ n2_ n3_ n4_ n5_ n6_ n7_ n8_ n9_ n10_ n11_ n12_ n13_ n14_ n15_ n16_ n17_ n18_
            (try clear hb)
            (try clear hb2)
            (try clear hk)
            (try clear hi)
            (try clear ho0)
            refine hK.out _ _ ⟨(blk_cell BK241.out 0).trans rfl, (blk_cell BK241.out 1).trans rfl, (blk_cell BK242.out 0).trans rfl, (blk_cell BK242.out 1).trans rfl⟩ (fun hHeld => ?_)
            clear hK K
            refine norm_ (a' := ?_) ?_ ?_
            rotate_left
            · show Act.put _ (some 99) _ = _
              simp only [Act.put, List.setIfInBounds_toArray, List.set_cons_zero, List.set_cons_succ, i64_w, i32_w]
              rfl
            refine pure_ (i := 5) (N := some 94) (v := ?_) (a' := ?_) #[true, true, true, true, true, true, false, false, true, false, false] rfl rfl (any_of HT_.out (by kernel_rfl)) (fun _ _ _ h => h) (Or.inl ⟨by rfl, ?_⟩) ?_ ?_
            rotate_left
            · intro w'
              go_simp
              with_reducible rfl
            rotate_left
            · simp only [Act.put, List.setIfInBounds_toArray, List.set_cons_zero, List.set_cons_succ, i64_w, i32_w]
              rfl
            refine pure_ (i := 6) (N := some 100) (v := ?_) (a' := ?_) #[true, true, true, true, true, true, true, false, true, false, false] rfl rfl (any_of HT_.out (by kernel_rfl)) (fun _ _ _ h => h) (Or.inl ⟨by rfl, ?_⟩) ?_ ?_
            rotate_left
            · intro w'
              go_simp
              with_reducible rfl
            rotate_left
            · simp only [Act.put, List.setIfInBounds_toArray, List.set_cons_zero, List.set_cons_succ, i64_w, i32_w]
              rfl
            refine pure_ (i := 7) (N := some 101) (v := ?_) (a' := ?_) #[true, true, true, true, true, true, true, true, true, false, false] rfl rfl (any_of HT_.out (by kernel_rfl)) (fun _ _ _ h => h) (Or.inl ⟨by rfl, ?_⟩) ?_ ?_
            rotate_left
            · intro w'
              go_simp
              with_reducible rfl
            rotate_left
            · simp only [Act.put, List.setIfInBounds_toArray, List.set_cons_zero, List.set_cons_succ, i64_w, i32_w]
              rfl
            exact norm_ (by simp only [putAll, Act.put, List.setIfInBounds_toArray, List.set_cons_zero, List.set_cons_succ]) (hCont (.slice Ao124 t295.length co124, .slice Ao125 t299.length co125, v304, gb307) _ ⟨hHeld, (by (with_reducible repeat (first | apply Kd.R_alloc | apply Kd.R_drewN | apply Kd.R_drew)); exact Kd.R_mono HO248.out (fun _ hk => ⟨hk.1.1.1.1, ⟨hk.1.1.1.2.1, ⟨hk.1.1.1.2.2.1, ⟨hk.1.1.1.2.2.2.1, ⟨hk.1.1.1.2.2.2.2.1, ⟨hk.1.1.1.2.2.2.2.2.1, ⟨hk.1.1.1.2.2.2.2.2.2, ⟨hk.1.1.2, ⟨hk.1.2, hk.2⟩⟩⟩⟩⟩⟩⟩⟩⟩)), (by (with_reducible repeat (first | apply Kd.R_alloc | apply Kd.R_drewN | apply Kd.R_drew)); exact Kd.R_mono HO252.out (fun _ hk => ⟨hk.1.1.1.1, ⟨hk.1.1.1.2.1, ⟨hk.1.1.1.2.2.1, ⟨hk.1.1.1.2.2.2.1, ⟨hk.1.1.1.2.2.2.2.1, ⟨hk.1.1.1.2.2.2.2.2.1, ⟨hk.1.1.1.2.2.2.2.2.2, ⟨hk.1.1.2, ⟨hk.1.2, hk.2⟩⟩⟩⟩⟩⟩⟩⟩⟩)), (by (with_reducible repeat (first | apply Kd.R_alloc | apply Kd.R_drewN | apply Kd.R_drew)); exact Kd.R_mono HO256.out (fun _ hk => ⟨hk.1.1.1.1, ⟨hk.1.1.1.2.1, ⟨hk.1.1.1.2.2.1, ⟨hk.1.1.1.2.2.2.1, ⟨hk.1.1.1.2.2.2.2.1, ⟨hk.1.1.1.2.2.2.2.2.1, ⟨hk.1.1.1.2.2.2.2.2.2, ⟨hk.1.1.2, ⟨hk.1.2, hk.2⟩⟩⟩⟩⟩⟩⟩⟩⟩)), (by (with_reducible repeat (first | apply Kd.R_alloc | apply Kd.R_drewN | apply Kd.R_drew)); exact Kd.R_mono HO262.out (fun _ hk => ⟨hk.1.1.1.1, ⟨hk.1.1.1.2.1, ⟨hk.1.1.1.2.2.1, ⟨hk.1.1.1.2.2.2.1, ⟨hk.1.1.1.2.2.2.2.1, ⟨hk.1.1.1.2.2.2.2.2.1, ⟨hk.1.1.1.2.2.2.2.2.2, ⟨hk.1.1.2, ⟨hk.1.2, hk.2⟩⟩⟩⟩⟩⟩⟩⟩⟩)), (by (with_reducible repeat (first | apply Kd.R_alloc | apply Kd.R_drewN | apply Kd.R_drew)); exact Kd.R_mono HO267.out (fun _ hk => ⟨hk.1.1.1.1, ⟨hk.1.1.1.2.1, ⟨hk.1.1.1.2.2.1, ⟨hk.1.1.1.2.2.2.1, ⟨hk.1.1.1.2.2.2.2.1, ⟨hk.1.1.1.2.2.2.2.2.1, ⟨hk.1.1.1.2.2.2.2.2.2, ⟨hk.1.1.2, ⟨hk.1.2, hk.2⟩⟩⟩⟩⟩⟩⟩⟩⟩)), (by (with_reducible repeat (first | apply Kd.R_alloc | apply Kd.R_drewN | apply Kd.R_drew)); exact Kd.R_mono HO272.out (fun _ hk => ⟨hk.1.1.1.1, ⟨hk.1.1.1.2.1, ⟨hk.1.1.1.2.2.1, ⟨hk.1.1.1.2.2.2.1, ⟨hk.1.1.1.2.2.2.2.1, ⟨hk.1.1.1.2.2.2.2.2.1, ⟨hk.1.1.1.2.2.2.2.2.2, ⟨hk.1.1.2, ⟨hk.1.2, hk.2⟩⟩⟩⟩⟩⟩⟩⟩⟩)), (by (with_reducible repeat (first | apply Kd.R_alloc | apply Kd.R_drewN | apply Kd.R_drew)); exact Kd.R_mono HO279.out (fun _ hk => ⟨hk.1.1.1.1, ⟨hk.1.1.1.2.1, ⟨hk.1.1.1.2.2.1, ⟨hk.1.1.1.2.2.2.1, ⟨hk.1.1.1.2.2.2.2.1, ⟨hk.1.1.1.2.2.2.2.2.1, ⟨hk.1.1.1.2.2.2.2.2.2, ⟨hk.1.1.2, ⟨hk.1.2, hk.2⟩⟩⟩⟩⟩⟩⟩⟩⟩)), (by (with_reducible repeat (first | apply Kd.R_alloc | apply Kd.R_drewN | apply Kd.R_drew)); exact Kd.R_mono HO284.out (fun _ hk => ⟨hk.1.1.1.1, ⟨hk.1.1.1.2.1, ⟨hk.1.1.1.2.2.1, ⟨hk.1.1.1.2.2.2.1, ⟨hk.1.1.1.2.2.2.2.1, ⟨hk.1.1.1.2.2.2.2.2.1, ⟨hk.1.1.1.2.2.2.2.2.2, ⟨hk.1.1.2, ⟨hk.1.2, hk.2⟩⟩⟩⟩⟩⟩⟩⟩⟩)), (by (with_reducible repeat (first | apply Kd.R_alloc | apply Kd.R_drewN | apply Kd.R_drew)); exact Kd.R_mono HO297.out (fun _ hk => ⟨hk.1.1.1.1.1.1.1.1.1.2, ⟨hk.1.1.1.1.1.1.1.1.2, ⟨hk.1.1.1.1.1.1.1.2, ⟨hk.1.1.1.1.1.1.2, ⟨hk.1.1.1.1.1.2, ⟨hk.1.1.1.1.2, ⟨hk.1.1.1.2, ⟨hk.1.1.2, ⟨hk.1.2, hk.2⟩⟩⟩⟩⟩⟩⟩⟩⟩)), (by (with_reducible repeat (first | apply Kd.R_alloc | apply Kd.R_drewN | apply Kd.R_drew)); exact Kd.R_mono HO301.out (fun _ hk => ⟨hk.1.1.1.1.1.1.1.1.1.2, ⟨hk.1.1.1.1.1.1.1.1.2, ⟨hk.1.1.1.1.1.1.1.2, ⟨hk.1.1.1.1.1.1.2, ⟨hk.1.1.1.1.1.2, ⟨hk.1.1.1.1.2, ⟨hk.1.1.1.2, ⟨hk.1.1.2, ⟨hk.1.2, hk.2⟩⟩⟩⟩⟩⟩⟩⟩⟩)), (by (with_reducible repeat (first | apply Kd.R_alloc | apply Kd.R_drewN | apply Kd.R_drew)); exact Kd.R_mono HO305.out (fun _ hk => ⟨hk.1.1.1.1.1.1.1.1.1.2, ⟨hk.1.1.1.1.1.1.1.1.2, ⟨hk.1.1.1.1.1.1.1.2, ⟨hk.1.1.1.1.1.1.2, ⟨hk.1.1.1.1.1.2, ⟨hk.1.1.1.1.2, ⟨hk.1.1.1.2, ⟨hk.1.1.2, ⟨hk.1.2, hk.2⟩⟩⟩⟩⟩⟩⟩⟩⟩)), (pk BK241.out), (pk BK242.out), (pk BK258.out), (pk BK263.out), (pk BK268.out), (pk BK274.out), (pk BK307.out), GW307.out, GE307.out, NB241_307.out, NB307_241.out, NB242_307.out, NB307_242.out, NB258_307.out, NB307_258.out, NB263_307.out, NB307_263.out, NB268_307.out, NB307_268.out, NB274_307.out, NB307_274.out, (bks HB.out)⟩)
        · skip
          refine box_step ?hg (N := 15) ?hd (cs := #[.int .i64 0, .slice none 0 0]) (t := 24) ?hr ?_; (case hd => rfl); (case hg => rfl); (case hr => first | (go_simp; done) | (go_simp; rfl))
          intro gb307 hg w121 hbox hb
          have n0_ := Aside0.mk (Kd.R_below (rk HO248.out) hb)
          have n1_ := Aside0.mk (Kd.R_below (rk HO252.out) hb)
          have n2_ := Aside0.mk (Kd.R_below (rk HO256.out) hb)
          have n3_ := Aside0.mk (Kd.R_below (rk HO262.out) hb)
          have n4_ := Aside0.mk (Kd.R_below (rk HO267.out) hb)
          have n5_ := Aside0.mk (Kd.R_below (rk HO272.out) hb)
          have n6_ := Aside0.mk (Kd.R_below (rk HO279.out) hb)
          have n7_ := Aside0.mk (Kd.R_below (rk HO284.out) hb)
          have n8_ := Aside0.mk (blk_below (pk BK241.out) hb)
          have n9_ := Aside0.mk (blk_below (pk BK242.out) hb)
          have n10_ := Aside0.mk (blk_below (pk BK258.out) hb)
          have n11_ := Aside0.mk (blk_below (pk BK263.out) hb)
          have n12_ := Aside0.mk (blk_below (pk BK268.out) hb)
          have n13_ := Aside0.mk (blk_below (pk BK274.out) hb)
          have n14_ := Aside0.mk (below_step (bks HB.out) hb)
          have n15_ := Aside0.mk (hbox)
          have n16_ := Aside0.mk ((by rw [hg]; exact (below_size (bks HB.out)) : w.heap.size ≤ gb307))
          have n17_ := Aside0.mk ((by rw [hg]; exact (below_size (bks HB.out)) : w.heap.size ≤ gb307))
          have n18_ := Aside0.mk ((by rw [hg]; exact Nat.ne_of_lt (blk_lt (g := gb241) (o := .cells #[.int .i64 a0_0, .slice A0_1 l0_1.length c0_1] 32 (0, 0)) (pk BK241.out)) : gb241 ≠ gb307))
          have n19_ := Aside0.mk ((by rw [hg]; exact Nat.ne_of_gt (blk_lt (g := gb241) (o := .cells #[.int .i64 a0_0, .slice A0_1 l0_1.length c0_1] 32 (0, 0)) (pk BK241.out)) : gb307 ≠ gb241))
          have n20_ := Aside0.mk ((by rw [hg]; exact Nat.ne_of_lt (blk_lt (g := gb242) (o := .cells #[.int .i64 a1_0, .slice A1_1 l1_1.length c1_1] 32 (0, 0)) (pk BK242.out)) : gb242 ≠ gb307))
          have n21_ := Aside0.mk ((by rw [hg]; exact Nat.ne_of_gt (blk_lt (g := gb242) (o := .cells #[.int .i64 a1_0, .slice A1_1 l1_1.length c1_1] 32 (0, 0)) (pk BK242.out)) : gb307 ≠ gb242))
          have n22_ := Aside0.mk ((by rw [hg]; exact Nat.ne_of_lt (blk_lt (g := gb258) (o := .cells #[.int .i64 t253, .slice Ao68 t254.length co68] 24 (0, 0)) (pk BK258.out)) : gb258 ≠ gb307))
          have n23_ := Aside0.mk ((by rw [hg]; exact Nat.ne_of_gt (blk_lt (g := gb258) (o := .cells #[.int .i64 t253, .slice Ao68 t254.length co68] 24 (0, 0)) (pk BK258.out)) : gb307 ≠ gb258))
          have n24_ := Aside0.mk ((by rw [hg]; exact Nat.ne_of_lt (blk_lt (g := gb263) (o := .cells #[.int .i64 t259, .slice Ao78 t260.length co78] 24 (0, 0)) (pk BK263.out)) : gb263 ≠ gb307))
          have n25_ := Aside0.mk ((by rw [hg]; exact Nat.ne_of_gt (blk_lt (g := gb263) (o := .cells #[.int .i64 t259, .slice Ao78 t260.length co78] 24 (0, 0)) (pk BK263.out)) : gb307 ≠ gb263))
          have n26_ := Aside0.mk ((by rw [hg]; exact Nat.ne_of_lt (blk_lt (g := gb268) (o := .cells #[.int .i64 t264, .slice Ao88 t265.length co88] 24 (0, 0)) (pk BK268.out)) : gb268 ≠ gb307))
          have n27_ := Aside0.mk ((by rw [hg]; exact Nat.ne_of_gt (blk_lt (g := gb268) (o := .cells #[.int .i64 t264, .slice Ao88 t265.length co88] 24 (0, 0)) (pk BK268.out)) : gb307 ≠ gb268))
          have n28_ := Aside0.mk ((by rw [hg]; exact Nat.ne_of_lt (blk_lt (g := gb274) (o := .cells #[.int .i64 t269, .slice Ao98 t270.length co98] 24 (0, 0)) (pk BK274.out)) : gb274 ≠ gb307))
          have n29_ := Aside0.mk ((by rw [hg]; exact Nat.ne_of_gt (blk_lt (g := gb274) (o := .cells #[.int .i64 t269, .slice Ao98 t270.length co98] 24 (0, 0)) (pk BK274.out)) : gb307 ≠ gb274))
          clear HO248 HO252 HO256 HO262 HO267 HO272 HO279 HO284 BK241 BK242 BK258 BK263 BK268 BK274 HB
          have HO248 := n0_
          have HO252 := n1_
          have HO256 := n2_
          have HO262 := n3_
          have HO267 := n4_
          have HO272 := n5_
          have HO279 := n6_
          have HO284 := n7_
          have BK241 := n8_
          have BK242 := n9_
          have BK258 := n10_
          have BK263 := n11_
          have BK268 := n12_
          have BK274 := n13_
          have HB := n14_
          have BK307 := n15_
          have GW307 := n16_
          have GE307 := n17_
          have NB241_307 := n18_
          have NB307_241 := n19_
          have NB242_307 := n20_
          have NB307_242 := n21_
          have NB258_307 := n22_
          have NB307_258 := n23_
          have NB263_307 := n24_
          have NB307_263 := n25_
          have NB268_307 := n26_
          have NB307_268 := n27_
          have NB274_307 := n28_
          have NB307_274 := n29_
          clear n0_ n1_ n2_ n3_ n4_ n5_ n6_ n7_ n8_ n9_ n10_ n11_ n12_ n13_ n14_ n15_ n16_ n17_ n18_ n19_ n20_ n21_ n22_ n23_ n24_ n25_ n26_ n27_ n28_ n29_ hb hbox hg
          refine hK.out _ _ ⟨(blk_cell BK241.out 0).trans rfl, (blk_cell BK241.out 1).trans rfl, (blk_cell BK242.out 0).trans rfl, (blk_cell BK242.out 1).trans rfl⟩ (fun hHeld => ?_)
          clear hK K
          refine norm_ (a' := ?_) ?_ ?_
          rotate_left
          · show Act.put _ (some 15) _ = _
            simp only [Act.put, List.setIfInBounds_toArray, List.set_cons_zero, List.set_cons_succ, i64_w, i32_w]
            rfl
          refine one_ (i := 1) (N := some 96) #[true, true, true, false, false, false, false, false, true, false, false] rfl rfl (one_of HT_.out (by kernel_rfl)) (by decide) (fun K hK => ?_)
          refine goes_ Try.func21 (by kernel_rfl) rfl #[.agg #[.int .i64 a0_0, .slice A0_1 l0_1.length c0_1]] (by rfl) rfl rfl (by (try simp only [List.map_toArray, List.map_cons, List.map_nil]); first | done | rfl | (simp only [List.length_drop, List.length_take]; rfl)) ?_
          with_reducible refine (laws_toRing.calls k a0_0 _ _ l0_1 t294 t295 _ ?side1 ?side2 A43.out).mono ?_
          (case side1 => repeat (first | exact (Kd.C_below HR0_1.out HB.out) | (with_reducible refine Kd.C_alloc ?_ _) | (with_reducible refine Kd.C_drewN ?_ _) | (with_reducible refine Kd.C_drew ?_)))
          (case side2 => exact HC0_1.out)
          rintro e w122 ⟨v296, rfl, ho0, hb⟩
          refine ⟨_, rfl, ?_⟩
          have n0_ := Aside0.mk (Kd.R_elder' (rk HO248.out) (Kd.R_base ho0) hb)
          have n1_ := Aside0.mk (Kd.R_elder' (rk HO252.out) (Kd.R_base ho0) hb)
          have n2_ := Aside0.mk (Kd.R_elder' (rk HO256.out) (Kd.R_base ho0) hb)
          have n3_ := Aside0.mk (Kd.R_elder' (rk HO262.out) (Kd.R_base ho0) hb)
          have n4_ := Aside0.mk (Kd.R_elder' (rk HO267.out) (Kd.R_base ho0) hb)
          have n5_ := Aside0.mk (Kd.R_elder' (rk HO272.out) (Kd.R_base ho0) hb)
          have n6_ := Aside0.mk (Kd.R_elder' (rk HO279.out) (Kd.R_base ho0) hb)
          have n7_ := Aside0.mk (Kd.R_elder' (rk HO284.out) (Kd.R_base ho0) hb)
          have n8_ := Aside0.mk (Kd.R_lower (Kd.R_new' (Kd.R_new' (Kd.R_new' (Kd.R_new' (Kd.R_new' (Kd.R_new' (Kd.R_new' (Kd.R_new' ho0 (Kd.R_lt (rk HO248.out))) (Kd.R_lt (rk HO252.out))) (Kd.R_lt (rk HO256.out))) (Kd.R_lt (rk HO262.out))) (Kd.R_lt (rk HO267.out))) (Kd.R_lt (rk HO272.out))) (Kd.R_lt (rk HO279.out))) (Kd.R_lt (rk HO284.out))) (below_size (bks HB.out)))
          have n9_ := Aside0.mk (blk_below (pk BK241.out) hb)
          have n10_ := Aside0.mk (blk_below (pk BK242.out) hb)
          have n11_ := Aside0.mk (blk_below (pk BK258.out) hb)
          have n12_ := Aside0.mk (blk_below (pk BK263.out) hb)
          have n13_ := Aside0.mk (blk_below (pk BK268.out) hb)
          have n14_ := Aside0.mk (blk_below (pk BK274.out) hb)
          have n15_ := Aside0.mk (blk_below (pk BK307.out) hb)
          have n16_ := Aside0.mk (below_step (bks HB.out) hb)
          clear HO248 HO252 HO256 HO262 HO267 HO272 HO279 HO284 BK241 BK242 BK258 BK263 BK268 BK274 BK307 HB
          have HO248 := n0_
          have HO252 := n1_
          have HO256 := n2_
          have HO262 := n3_
          have HO267 := n4_
          have HO272 := n5_
          have HO279 := n6_
          have HO284 := n7_
          have HO297 := n8_
          have BK241 := n9_
          have BK242 := n10_
          have BK258 := n11_
          have BK263 := n12_
          have BK268 := n13_
          have BK274 := n14_
          have BK307 := n15_
          have HB := n16_
          clear n0_ n1_ n2_ n3_ n4_ n5_ n6_ n7_ n8_ n9_ n10_ n11_ n12_ n13_ n14_ n15_ n16_
          (try clear hb)
          (try clear hb2)
          (try clear hk)
          (try clear hi)
          (try clear ho0)
          refine hK.out _ _ ⟨(blk_cell BK241.out 0).trans rfl, (blk_cell BK241.out 1).trans rfl, (blk_cell BK242.out 0).trans rfl, (blk_cell BK242.out 1).trans rfl⟩ (fun hHeld => ?_)
          clear hK K
          refine norm_ (a' := ?_) ?_ ?_
          rotate_left
          · show Act.put _ (some 96) _ = _
            simp only [Act.put, List.setIfInBounds_toArray, List.set_cons_zero, List.set_cons_succ, i64_w, i32_w]
            rfl
          refine one_ (i := 3) (N := some 98) #[true, true, true, true, false, false, false, false, true, false, false] rfl rfl (one_of HT_.out (by kernel_rfl)) (by decide) (fun K hK => ?_)
          refine goes_ Try.func21 (by kernel_rfl) rfl #[.agg #[.int .i64 a1_0, .slice A1_1 l1_1.length c1_1]] (by rfl) rfl rfl (by (try simp only [List.map_toArray, List.map_cons, List.map_nil]); first | done | rfl | (simp only [List.length_drop, List.length_take]; rfl)) ?_
          with_reducible refine (laws_toRing.calls k a1_0 _ _ l1_1 t298 t299 _ ?side1 ?side2 A44.out).mono ?_
          (case side1 => repeat (first | exact (Kd.C_below HR1_1.out HB.out) | (with_reducible refine Kd.C_alloc ?_ _) | (with_reducible refine Kd.C_drewN ?_ _) | (with_reducible refine Kd.C_drew ?_)))
          (case side2 => exact HC1_1.out)
          rintro e w123 ⟨v300, rfl, ho0, hb⟩
          refine ⟨_, rfl, ?_⟩
          have n0_ := Aside0.mk (Kd.R_elder' (rk HO248.out) (Kd.R_base ho0) hb)
          have n1_ := Aside0.mk (Kd.R_elder' (rk HO252.out) (Kd.R_base ho0) hb)
          have n2_ := Aside0.mk (Kd.R_elder' (rk HO256.out) (Kd.R_base ho0) hb)
          have n3_ := Aside0.mk (Kd.R_elder' (rk HO262.out) (Kd.R_base ho0) hb)
          have n4_ := Aside0.mk (Kd.R_elder' (rk HO267.out) (Kd.R_base ho0) hb)
          have n5_ := Aside0.mk (Kd.R_elder' (rk HO272.out) (Kd.R_base ho0) hb)
          have n6_ := Aside0.mk (Kd.R_elder' (rk HO279.out) (Kd.R_base ho0) hb)
          have n7_ := Aside0.mk (Kd.R_elder' (rk HO284.out) (Kd.R_base ho0) hb)
          have n8_ := Aside0.mk (Kd.R_elder' (rk HO297.out) (Kd.R_base ho0) hb)
          have n9_ := Aside0.mk (Kd.R_lower (Kd.R_new' (Kd.R_new' (Kd.R_new' (Kd.R_new' (Kd.R_new' (Kd.R_new' (Kd.R_new' (Kd.R_new' (Kd.R_new' ho0 (Kd.R_lt (rk HO248.out))) (Kd.R_lt (rk HO252.out))) (Kd.R_lt (rk HO256.out))) (Kd.R_lt (rk HO262.out))) (Kd.R_lt (rk HO267.out))) (Kd.R_lt (rk HO272.out))) (Kd.R_lt (rk HO279.out))) (Kd.R_lt (rk HO284.out))) (Kd.R_lt (rk HO297.out))) (below_size (bks HB.out)))
          have n10_ := Aside0.mk (blk_below (pk BK241.out) hb)
          have n11_ := Aside0.mk (blk_below (pk BK242.out) hb)
          have n12_ := Aside0.mk (blk_below (pk BK258.out) hb)
          have n13_ := Aside0.mk (blk_below (pk BK263.out) hb)
          have n14_ := Aside0.mk (blk_below (pk BK268.out) hb)
          have n15_ := Aside0.mk (blk_below (pk BK274.out) hb)
          have n16_ := Aside0.mk (blk_below (pk BK307.out) hb)
          have n17_ := Aside0.mk (below_step (bks HB.out) hb)
          clear HO248 HO252 HO256 HO262 HO267 HO272 HO279 HO284 HO297 BK241 BK242 BK258 BK263 BK268 BK274 BK307 HB
          have HO248 := n0_
          have HO252 := n1_
          have HO256 := n2_
          have HO262 := n3_
          have HO267 := n4_
          have HO272 := n5_
          have HO279 := n6_
          have HO284 := n7_
          have HO297 := n8_
          have HO301 := n9_
          have BK241 := n10_
          have BK242 := n11_
          have BK258 := n12_
          have BK263 := n13_
          have BK268 := n14_
          have BK274 := n15_
          have BK307 := n16_
          have HB := n17_
          clear n0_ n1_ n2_ n3_ n4_ n5_ n6_ n7_ n8_ n9_ n10_ n11_ n12_ n13_ n14_ n15_ n16_ n17_
          (try clear hb)
          (try clear hb2)
          (try clear hk)
          (try clear hi)
          (try clear ho0)
          obtain ⟨Ao124, co124, eo124⟩ := Kd.R_slice HO297.out
          (first | subst eo124 | (injection eo124 with f1_ f2_ f3_; have f4_ := f1_.symm; have f5_ := f3_.symm; clear f1_ f2_ f3_; subst f4_; subst f5_))
          obtain ⟨Ao125, co125, eo125⟩ := Kd.R_slice HO301.out
          (first | subst eo125 | (injection eo125 with f1_ f2_ f3_; have f4_ := f1_.symm; have f5_ := f3_.symm; clear f1_ f2_ f3_; subst f4_; subst f5_))
          refine hK.out _ _ ⟨(blk_cell BK241.out 0).trans rfl, (blk_cell BK241.out 1).trans rfl, (blk_cell BK242.out 0).trans rfl, (blk_cell BK242.out 1).trans rfl⟩ (fun hHeld => ?_)
          clear hK K
          refine norm_ (a' := ?_) ?_ ?_
          rotate_left
          · show Act.put _ (some 98) _ = _
            simp only [Act.put, List.setIfInBounds_toArray, List.set_cons_zero, List.set_cons_succ, i64_w, i32_w]
            rfl
          refine one_ (i := 4) (N := some 99) #[true, true, true, true, true, false, false, false, true, false, false] rfl rfl (one_of HT_.out (by kernel_rfl)) (by decide) (fun K hK => ?_)
          refine goes_ Try.func28 (by kernel_rfl) rfl #[.agg #[.int .i64 t294, .slice Ao124 t295.length co124], .agg #[.int .i64 t298, .slice Ao125 t299.length co125]] (by rfl) rfl rfl (by (try simp only [List.map_toArray, List.map_cons, List.map_nil]); first | done | rfl | (simp only [List.length_drop, List.length_take]; rfl)) ?_
          with_reducible refine (impl_MultiplyRings.calls k t294 _ _ t295 t298 _ _ t299 t302 t303 t306 _ ?side1 ?side2 ?side3 ?side4 A45.out).mono ?_
          (case side1 => repeat (first | exact (Kd.R_reads' HO297.out).2.2 | (with_reducible refine Kd.C_alloc ?_ _) | (with_reducible refine Kd.C_drewN ?_ _) | (with_reducible refine Kd.C_drew ?_)))
          (case side2 => exact (Kd.R_reads' HO297.out).2.1)
          (case side3 => repeat (first | exact (Kd.R_reads' HO301.out).2.2 | (with_reducible refine Kd.C_alloc ?_ _) | (with_reducible refine Kd.C_drewN ?_ _) | (with_reducible refine Kd.C_drew ?_)))
          (case side4 => exact (Kd.R_reads' HO301.out).2.1)
          rintro e w126 ⟨v304, rfl, ho0, hb⟩
          refine ⟨_, rfl, ?_⟩
          have n0_ := Aside0.mk (Kd.R_elder' (rk HO248.out) (Kd.R_base ho0) hb)
          have n1_ := Aside0.mk (Kd.R_elder' (rk HO252.out) (Kd.R_base ho0) hb)
          have n2_ := Aside0.mk (Kd.R_elder' (rk HO256.out) (Kd.R_base ho0) hb)
          have n3_ := Aside0.mk (Kd.R_elder' (rk HO262.out) (Kd.R_base ho0) hb)
          have n4_ := Aside0.mk (Kd.R_elder' (rk HO267.out) (Kd.R_base ho0) hb)
          have n5_ := Aside0.mk (Kd.R_elder' (rk HO272.out) (Kd.R_base ho0) hb)
          have n6_ := Aside0.mk (Kd.R_elder' (rk HO279.out) (Kd.R_base ho0) hb)
          have n7_ := Aside0.mk (Kd.R_elder' (rk HO284.out) (Kd.R_base ho0) hb)
          have n8_ := Aside0.mk (Kd.R_elder' (rk HO297.out) (Kd.R_base ho0) hb)
          have n9_ := Aside0.mk (Kd.R_elder' (rk HO301.out) (Kd.R_base ho0) hb)
          have n10_ := Aside0.mk (Kd.R_lower (Kd.R_new' (Kd.R_new' (Kd.R_new' (Kd.R_new' (Kd.R_new' (Kd.R_new' (Kd.R_new' (Kd.R_new' (Kd.R_new' (Kd.R_new' ho0 (Kd.R_lt (rk HO248.out))) (Kd.R_lt (rk HO252.out))) (Kd.R_lt (rk HO256.out))) (Kd.R_lt (rk HO262.out))) (Kd.R_lt (rk HO267.out))) (Kd.R_lt (rk HO272.out))) (Kd.R_lt (rk HO279.out))) (Kd.R_lt (rk HO284.out))) (Kd.R_lt (rk HO297.out))) (Kd.R_lt (rk HO301.out))) (below_size (bks HB.out)))
          have n11_ := Aside0.mk (blk_below (pk BK241.out) hb)
          have n12_ := Aside0.mk (blk_below (pk BK242.out) hb)
          have n13_ := Aside0.mk (blk_below (pk BK258.out) hb)
          have n14_ := Aside0.mk (blk_below (pk BK263.out) hb)
          have n15_ := Aside0.mk (blk_below (pk BK268.out) hb)
          have n16_ := Aside0.mk (blk_below (pk BK274.out) hb)
          have n17_ := Aside0.mk (blk_below (pk BK307.out) hb)
          have n18_ := Aside0.mk (below_step (bks HB.out) hb)
          clear HO248 HO252 HO256 HO262 HO267 HO272 HO279 HO284 HO297 HO301 BK241 BK242 BK258 BK263 BK268 BK274 BK307 HB
          have HO248 := n0_
          have HO252 := n1_
          have HO256 := n2_
          have HO262 := n3_
          have HO267 := n4_
          have HO272 := n5_
          have HO279 := n6_
          have HO284 := n7_
          have HO297 := n8_
          have HO301 := n9_
          have HO305 := n10_
          have BK241 := n11_
          have BK242 := n12_
          have BK258 := n13_
          have BK263 := n14_
          have BK268 := n15_
          have BK274 := n16_
          have BK307 := n17_
          have HB := n18_
          clear n0_ n1_ n2_ n3_ n4_ n5_ n6_ n7_ n8_ n9_ n10_ n11_ n12_ n13_ n14_ n15_ n16_ n17_ n18_
          (try clear hb)
          (try clear hb2)
          (try clear hk)
          (try clear hi)
          (try clear ho0)
          refine hK.out _ _ ⟨(blk_cell BK241.out 0).trans rfl, (blk_cell BK241.out 1).trans rfl, (blk_cell BK242.out 0).trans rfl, (blk_cell BK242.out 1).trans rfl⟩ (fun hHeld => ?_)
          clear hK K
          refine norm_ (a' := ?_) ?_ ?_
          rotate_left
          · show Act.put _ (some 99) _ = _
            simp only [Act.put, List.setIfInBounds_toArray, List.set_cons_zero, List.set_cons_succ, i64_w, i32_w]
            rfl
          refine pure_ (i := 5) (N := some 94) (v := ?_) (a' := ?_) #[true, true, true, true, true, true, false, false, true, false, false] rfl rfl (any_of HT_.out (by kernel_rfl)) (fun _ _ _ h => h) (Or.inl ⟨by rfl, ?_⟩) ?_ ?_
          rotate_left
          · intro w'
            go_simp
            with_reducible rfl
          rotate_left
          · simp only [Act.put, List.setIfInBounds_toArray, List.set_cons_zero, List.set_cons_succ, i64_w, i32_w]
            rfl
          refine pure_ (i := 6) (N := some 100) (v := ?_) (a' := ?_) #[true, true, true, true, true, true, true, false, true, false, false] rfl rfl (any_of HT_.out (by kernel_rfl)) (fun _ _ _ h => h) (Or.inl ⟨by rfl, ?_⟩) ?_ ?_
          rotate_left
          · intro w'
            go_simp
            with_reducible rfl
          rotate_left
          · simp only [Act.put, List.setIfInBounds_toArray, List.set_cons_zero, List.set_cons_succ, i64_w, i32_w]
            rfl
          refine pure_ (i := 7) (N := some 101) (v := ?_) (a' := ?_) #[true, true, true, true, true, true, true, true, true, false, false] rfl rfl (any_of HT_.out (by kernel_rfl)) (fun _ _ _ h => h) (Or.inl ⟨by rfl, ?_⟩) ?_ ?_
          rotate_left
          · intro w'
            go_simp
            with_reducible rfl
          rotate_left
          · simp only [Act.put, List.setIfInBounds_toArray, List.set_cons_zero, List.set_cons_succ, i64_w, i32_w]
            rfl
          exact norm_ (by simp only [putAll, Act.put, List.setIfInBounds_toArray, List.set_cons_zero, List.set_cons_succ]) (hCont (.slice Ao124 t295.length co124, .slice Ao125 t299.length co125, v304, gb307) _ ⟨hHeld, (by (with_reducible repeat (first | apply Kd.R_alloc | apply Kd.R_drewN | apply Kd.R_drew)); exact Kd.R_mono HO248.out (fun _ hk => ⟨hk.1.1.1.1, ⟨hk.1.1.1.2.1, ⟨hk.1.1.1.2.2.1, ⟨hk.1.1.1.2.2.2.1, ⟨hk.1.1.1.2.2.2.2.1, ⟨hk.1.1.1.2.2.2.2.2.1, ⟨hk.1.1.1.2.2.2.2.2.2, ⟨hk.1.1.2, ⟨hk.1.2, hk.2⟩⟩⟩⟩⟩⟩⟩⟩⟩)), (by (with_reducible repeat (first | apply Kd.R_alloc | apply Kd.R_drewN | apply Kd.R_drew)); exact Kd.R_mono HO252.out (fun _ hk => ⟨hk.1.1.1.1, ⟨hk.1.1.1.2.1, ⟨hk.1.1.1.2.2.1, ⟨hk.1.1.1.2.2.2.1, ⟨hk.1.1.1.2.2.2.2.1, ⟨hk.1.1.1.2.2.2.2.2.1, ⟨hk.1.1.1.2.2.2.2.2.2, ⟨hk.1.1.2, ⟨hk.1.2, hk.2⟩⟩⟩⟩⟩⟩⟩⟩⟩)), (by (with_reducible repeat (first | apply Kd.R_alloc | apply Kd.R_drewN | apply Kd.R_drew)); exact Kd.R_mono HO256.out (fun _ hk => ⟨hk.1.1.1.1, ⟨hk.1.1.1.2.1, ⟨hk.1.1.1.2.2.1, ⟨hk.1.1.1.2.2.2.1, ⟨hk.1.1.1.2.2.2.2.1, ⟨hk.1.1.1.2.2.2.2.2.1, ⟨hk.1.1.1.2.2.2.2.2.2, ⟨hk.1.1.2, ⟨hk.1.2, hk.2⟩⟩⟩⟩⟩⟩⟩⟩⟩)), (by (with_reducible repeat (first | apply Kd.R_alloc | apply Kd.R_drewN | apply Kd.R_drew)); exact Kd.R_mono HO262.out (fun _ hk => ⟨hk.1.1.1.1, ⟨hk.1.1.1.2.1, ⟨hk.1.1.1.2.2.1, ⟨hk.1.1.1.2.2.2.1, ⟨hk.1.1.1.2.2.2.2.1, ⟨hk.1.1.1.2.2.2.2.2.1, ⟨hk.1.1.1.2.2.2.2.2.2, ⟨hk.1.1.2, ⟨hk.1.2, hk.2⟩⟩⟩⟩⟩⟩⟩⟩⟩)), (by (with_reducible repeat (first | apply Kd.R_alloc | apply Kd.R_drewN | apply Kd.R_drew)); exact Kd.R_mono HO267.out (fun _ hk => ⟨hk.1.1.1.1, ⟨hk.1.1.1.2.1, ⟨hk.1.1.1.2.2.1, ⟨hk.1.1.1.2.2.2.1, ⟨hk.1.1.1.2.2.2.2.1, ⟨hk.1.1.1.2.2.2.2.2.1, ⟨hk.1.1.1.2.2.2.2.2.2, ⟨hk.1.1.2, ⟨hk.1.2, hk.2⟩⟩⟩⟩⟩⟩⟩⟩⟩)), (by (with_reducible repeat (first | apply Kd.R_alloc | apply Kd.R_drewN | apply Kd.R_drew)); exact Kd.R_mono HO272.out (fun _ hk => ⟨hk.1.1.1.1, ⟨hk.1.1.1.2.1, ⟨hk.1.1.1.2.2.1, ⟨hk.1.1.1.2.2.2.1, ⟨hk.1.1.1.2.2.2.2.1, ⟨hk.1.1.1.2.2.2.2.2.1, ⟨hk.1.1.1.2.2.2.2.2.2, ⟨hk.1.1.2, ⟨hk.1.2, hk.2⟩⟩⟩⟩⟩⟩⟩⟩⟩)), (by (with_reducible repeat (first | apply Kd.R_alloc | apply Kd.R_drewN | apply Kd.R_drew)); exact Kd.R_mono HO279.out (fun _ hk => ⟨hk.1.1.1.1, ⟨hk.1.1.1.2.1, ⟨hk.1.1.1.2.2.1, ⟨hk.1.1.1.2.2.2.1, ⟨hk.1.1.1.2.2.2.2.1, ⟨hk.1.1.1.2.2.2.2.2.1, ⟨hk.1.1.1.2.2.2.2.2.2, ⟨hk.1.1.2, ⟨hk.1.2, hk.2⟩⟩⟩⟩⟩⟩⟩⟩⟩)), (by (with_reducible repeat (first | apply Kd.R_alloc | apply Kd.R_drewN | apply Kd.R_drew)); exact Kd.R_mono HO284.out (fun _ hk => ⟨hk.1.1.1.1, ⟨hk.1.1.1.2.1, ⟨hk.1.1.1.2.2.1, ⟨hk.1.1.1.2.2.2.1, ⟨hk.1.1.1.2.2.2.2.1, ⟨hk.1.1.1.2.2.2.2.2.1, ⟨hk.1.1.1.2.2.2.2.2.2, ⟨hk.1.1.2, ⟨hk.1.2, hk.2⟩⟩⟩⟩⟩⟩⟩⟩⟩)), (by (with_reducible repeat (first | apply Kd.R_alloc | apply Kd.R_drewN | apply Kd.R_drew)); exact Kd.R_mono HO297.out (fun _ hk => ⟨hk.1.1.1.1.1.1.1.1.1.2, ⟨hk.1.1.1.1.1.1.1.1.2, ⟨hk.1.1.1.1.1.1.1.2, ⟨hk.1.1.1.1.1.1.2, ⟨hk.1.1.1.1.1.2, ⟨hk.1.1.1.1.2, ⟨hk.1.1.1.2, ⟨hk.1.1.2, ⟨hk.1.2, hk.2⟩⟩⟩⟩⟩⟩⟩⟩⟩)), (by (with_reducible repeat (first | apply Kd.R_alloc | apply Kd.R_drewN | apply Kd.R_drew)); exact Kd.R_mono HO301.out (fun _ hk => ⟨hk.1.1.1.1.1.1.1.1.1.2, ⟨hk.1.1.1.1.1.1.1.1.2, ⟨hk.1.1.1.1.1.1.1.2, ⟨hk.1.1.1.1.1.1.2, ⟨hk.1.1.1.1.1.2, ⟨hk.1.1.1.1.2, ⟨hk.1.1.1.2, ⟨hk.1.1.2, ⟨hk.1.2, hk.2⟩⟩⟩⟩⟩⟩⟩⟩⟩)), (by (with_reducible repeat (first | apply Kd.R_alloc | apply Kd.R_drewN | apply Kd.R_drew)); exact Kd.R_mono HO305.out (fun _ hk => ⟨hk.1.1.1.1.1.1.1.1.1.2, ⟨hk.1.1.1.1.1.1.1.1.2, ⟨hk.1.1.1.1.1.1.1.2, ⟨hk.1.1.1.1.1.1.2, ⟨hk.1.1.1.1.1.2, ⟨hk.1.1.1.1.2, ⟨hk.1.1.1.2, ⟨hk.1.1.2, ⟨hk.1.2, hk.2⟩⟩⟩⟩⟩⟩⟩⟩⟩)), (pk BK241.out), (pk BK242.out), (pk BK258.out), (pk BK263.out), (pk BK268.out), (pk BK274.out), (pk BK307.out), GW307.out, GE307.out, NB241_307.out, NB307_241.out, NB242_307.out, NB307_242.out, NB258_307.out, NB307_258.out, NB263_307.out, NB307_263.out, NB268_307.out, NB307_268.out, NB274_307.out, NB307_274.out, (bks HB.out)⟩)
      rintro ⟨v296, v300, v304, gb307⟩ w127 ⟨hS_, h0_, h1_, h2_, h3_, h4_, h5_, h6_, h7_, h8_, h9_, h10_, h11_, h12_, h13_, h14_, h15_, h16_, h17_, h18_, h19_, h20_, h21_, h22_, h23_, h24_, h25_, h26_, h27_, h28_, h29_, h30_, h31_, h32_⟩
      have n0_ : Aside0 (Kd.R (Kd.int .i64) 2 w127 w.heap.size (fun k_ => some k_ ≠ (v251 : Value).ownBlock ∧ some k_ ≠ (.slice Ao68 t254.length co68 : Value).ownBlock ∧ some k_ ≠ (.slice Ao78 t260.length co78 : Value).ownBlock ∧ some k_ ≠ (.slice Ao88 t265.length co88 : Value).ownBlock ∧ some k_ ≠ (.slice Ao98 t270.length co98 : Value).ownBlock ∧ some k_ ≠ (.slice Ao103 t277.length co103 : Value).ownBlock ∧ some k_ ≠ (.slice Ao107 t282.length co107 : Value).ownBlock ∧ some k_ ≠ (v296 : Value).ownBlock ∧ some k_ ≠ (v300 : Value).ownBlock ∧ some k_ ≠ (v304 : Value).ownBlock) v247 t246) := ⟨h0_⟩
      have n1_ : Aside0 (Kd.R (Kd.int .i64) 2 w127 w.heap.size (fun k_ => some k_ ≠ (v247 : Value).ownBlock ∧ some k_ ≠ (.slice Ao68 t254.length co68 : Value).ownBlock ∧ some k_ ≠ (.slice Ao78 t260.length co78 : Value).ownBlock ∧ some k_ ≠ (.slice Ao88 t265.length co88 : Value).ownBlock ∧ some k_ ≠ (.slice Ao98 t270.length co98 : Value).ownBlock ∧ some k_ ≠ (.slice Ao103 t277.length co103 : Value).ownBlock ∧ some k_ ≠ (.slice Ao107 t282.length co107 : Value).ownBlock ∧ some k_ ≠ (v296 : Value).ownBlock ∧ some k_ ≠ (v300 : Value).ownBlock ∧ some k_ ≠ (v304 : Value).ownBlock) v251 t250) := ⟨h1_⟩
      have n2_ : Aside0 (Kd.R (Kd.int .i64) 2 w127 w.heap.size (fun k_ => some k_ ≠ (v247 : Value).ownBlock ∧ some k_ ≠ (v251 : Value).ownBlock ∧ some k_ ≠ (.slice Ao78 t260.length co78 : Value).ownBlock ∧ some k_ ≠ (.slice Ao88 t265.length co88 : Value).ownBlock ∧ some k_ ≠ (.slice Ao98 t270.length co98 : Value).ownBlock ∧ some k_ ≠ (.slice Ao103 t277.length co103 : Value).ownBlock ∧ some k_ ≠ (.slice Ao107 t282.length co107 : Value).ownBlock ∧ some k_ ≠ (v296 : Value).ownBlock ∧ some k_ ≠ (v300 : Value).ownBlock ∧ some k_ ≠ (v304 : Value).ownBlock) (.slice Ao68 t254.length co68) t254) := ⟨h2_⟩
      have n3_ : Aside0 (Kd.R (Kd.int .i64) 2 w127 w.heap.size (fun k_ => some k_ ≠ (v247 : Value).ownBlock ∧ some k_ ≠ (v251 : Value).ownBlock ∧ some k_ ≠ (.slice Ao68 t254.length co68 : Value).ownBlock ∧ some k_ ≠ (.slice Ao88 t265.length co88 : Value).ownBlock ∧ some k_ ≠ (.slice Ao98 t270.length co98 : Value).ownBlock ∧ some k_ ≠ (.slice Ao103 t277.length co103 : Value).ownBlock ∧ some k_ ≠ (.slice Ao107 t282.length co107 : Value).ownBlock ∧ some k_ ≠ (v296 : Value).ownBlock ∧ some k_ ≠ (v300 : Value).ownBlock ∧ some k_ ≠ (v304 : Value).ownBlock) (.slice Ao78 t260.length co78) t287) := ⟨h3_⟩
      have n4_ : Aside0 (Kd.R (Kd.int .i64) 2 w127 w.heap.size (fun k_ => some k_ ≠ (v247 : Value).ownBlock ∧ some k_ ≠ (v251 : Value).ownBlock ∧ some k_ ≠ (.slice Ao68 t254.length co68 : Value).ownBlock ∧ some k_ ≠ (.slice Ao78 t260.length co78 : Value).ownBlock ∧ some k_ ≠ (.slice Ao98 t270.length co98 : Value).ownBlock ∧ some k_ ≠ (.slice Ao103 t277.length co103 : Value).ownBlock ∧ some k_ ≠ (.slice Ao107 t282.length co107 : Value).ownBlock ∧ some k_ ≠ (v296 : Value).ownBlock ∧ some k_ ≠ (v300 : Value).ownBlock ∧ some k_ ≠ (v304 : Value).ownBlock) (.slice Ao88 t265.length co88) t289) := ⟨h4_⟩
      have n5_ : Aside0 (Kd.R (Kd.int .i64) 2 w127 w.heap.size (fun k_ => some k_ ≠ (v247 : Value).ownBlock ∧ some k_ ≠ (v251 : Value).ownBlock ∧ some k_ ≠ (.slice Ao68 t254.length co68 : Value).ownBlock ∧ some k_ ≠ (.slice Ao78 t260.length co78 : Value).ownBlock ∧ some k_ ≠ (.slice Ao88 t265.length co88 : Value).ownBlock ∧ some k_ ≠ (.slice Ao103 t277.length co103 : Value).ownBlock ∧ some k_ ≠ (.slice Ao107 t282.length co107 : Value).ownBlock ∧ some k_ ≠ (v296 : Value).ownBlock ∧ some k_ ≠ (v300 : Value).ownBlock ∧ some k_ ≠ (v304 : Value).ownBlock) (.slice Ao98 t270.length co98) t292) := ⟨h5_⟩
      have n6_ : Aside0 (Kd.R (Kd.int .i64) 2 w127 w.heap.size (fun k_ => some k_ ≠ (v247 : Value).ownBlock ∧ some k_ ≠ (v251 : Value).ownBlock ∧ some k_ ≠ (.slice Ao68 t254.length co68 : Value).ownBlock ∧ some k_ ≠ (.slice Ao78 t260.length co78 : Value).ownBlock ∧ some k_ ≠ (.slice Ao88 t265.length co88 : Value).ownBlock ∧ some k_ ≠ (.slice Ao98 t270.length co98 : Value).ownBlock ∧ some k_ ≠ (.slice Ao107 t282.length co107 : Value).ownBlock ∧ some k_ ≠ (v296 : Value).ownBlock ∧ some k_ ≠ (v300 : Value).ownBlock ∧ some k_ ≠ (v304 : Value).ownBlock) (.slice Ao103 t277.length co103) t277) := ⟨h6_⟩
      have n7_ : Aside0 (Kd.R (Kd.int .i64) 2 w127 w.heap.size (fun k_ => some k_ ≠ (v247 : Value).ownBlock ∧ some k_ ≠ (v251 : Value).ownBlock ∧ some k_ ≠ (.slice Ao68 t254.length co68 : Value).ownBlock ∧ some k_ ≠ (.slice Ao78 t260.length co78 : Value).ownBlock ∧ some k_ ≠ (.slice Ao88 t265.length co88 : Value).ownBlock ∧ some k_ ≠ (.slice Ao98 t270.length co98 : Value).ownBlock ∧ some k_ ≠ (.slice Ao103 t277.length co103 : Value).ownBlock ∧ some k_ ≠ (v296 : Value).ownBlock ∧ some k_ ≠ (v300 : Value).ownBlock ∧ some k_ ≠ (v304 : Value).ownBlock) (.slice Ao107 t282.length co107) t282) := ⟨h7_⟩
      have n8_ : Aside0 (Kd.R (Kd.int .i64) 2 w127 w.heap.size (fun k_ => some k_ ≠ (v247 : Value).ownBlock ∧ some k_ ≠ (v251 : Value).ownBlock ∧ some k_ ≠ (.slice Ao68 t254.length co68 : Value).ownBlock ∧ some k_ ≠ (.slice Ao78 t260.length co78 : Value).ownBlock ∧ some k_ ≠ (.slice Ao88 t265.length co88 : Value).ownBlock ∧ some k_ ≠ (.slice Ao98 t270.length co98 : Value).ownBlock ∧ some k_ ≠ (.slice Ao103 t277.length co103 : Value).ownBlock ∧ some k_ ≠ (.slice Ao107 t282.length co107 : Value).ownBlock ∧ some k_ ≠ (v300 : Value).ownBlock ∧ some k_ ≠ (v304 : Value).ownBlock) v296 t295) := ⟨h8_⟩
      have n9_ : Aside0 (Kd.R (Kd.int .i64) 2 w127 w.heap.size (fun k_ => some k_ ≠ (v247 : Value).ownBlock ∧ some k_ ≠ (v251 : Value).ownBlock ∧ some k_ ≠ (.slice Ao68 t254.length co68 : Value).ownBlock ∧ some k_ ≠ (.slice Ao78 t260.length co78 : Value).ownBlock ∧ some k_ ≠ (.slice Ao88 t265.length co88 : Value).ownBlock ∧ some k_ ≠ (.slice Ao98 t270.length co98 : Value).ownBlock ∧ some k_ ≠ (.slice Ao103 t277.length co103 : Value).ownBlock ∧ some k_ ≠ (.slice Ao107 t282.length co107 : Value).ownBlock ∧ some k_ ≠ (v296 : Value).ownBlock ∧ some k_ ≠ (v304 : Value).ownBlock) v300 t299) := ⟨h9_⟩
      have n10_ : Aside0 (Kd.R (Kd.int .i64) 2 w127 w.heap.size (fun k_ => some k_ ≠ (v247 : Value).ownBlock ∧ some k_ ≠ (v251 : Value).ownBlock ∧ some k_ ≠ (.slice Ao68 t254.length co68 : Value).ownBlock ∧ some k_ ≠ (.slice Ao78 t260.length co78 : Value).ownBlock ∧ some k_ ≠ (.slice Ao88 t265.length co88 : Value).ownBlock ∧ some k_ ≠ (.slice Ao98 t270.length co98 : Value).ownBlock ∧ some k_ ≠ (.slice Ao103 t277.length co103 : Value).ownBlock ∧ some k_ ≠ (.slice Ao107 t282.length co107 : Value).ownBlock ∧ some k_ ≠ (v296 : Value).ownBlock ∧ some k_ ≠ (v300 : Value).ownBlock) v304 t303) := ⟨h10_⟩
      have n11_ : Aside0 (w127.heap[gb241]? = some (.cells #[.int .i64 a0_0, .slice A0_1 l0_1.length c0_1] 32 (0, 0))) := ⟨h11_⟩
      have n12_ : Aside0 (w127.heap[gb242]? = some (.cells #[.int .i64 a1_0, .slice A1_1 l1_1.length c1_1] 32 (0, 0))) := ⟨h12_⟩
      have n13_ : Aside0 (w127.heap[gb258]? = some (.cells #[.int .i64 t253, .slice Ao68 t254.length co68] 24 (0, 0))) := ⟨h13_⟩
      have n14_ : Aside0 (w127.heap[gb263]? = some (.cells #[.int .i64 t259, .slice Ao78 t260.length co78] 24 (0, 0))) := ⟨h14_⟩
      have n15_ : Aside0 (w127.heap[gb268]? = some (.cells #[.int .i64 t264, .slice Ao88 t265.length co88] 24 (0, 0))) := ⟨h15_⟩
      have n16_ : Aside0 (w127.heap[gb274]? = some (.cells #[.int .i64 t269, .slice Ao98 t270.length co98] 24 (0, 0))) := ⟨h16_⟩
      have n17_ : Aside0 (w127.heap[gb307]? = some (.cells #[.int .i64 0, .slice none 0 0] 24 (0, 0))) := ⟨h17_⟩
      have n18_ : Aside0 (w.heap.size ≤ gb307) := ⟨h18_⟩
      have n19_ : Aside0 (w.heap.size ≤ gb307) := ⟨h19_⟩
      have n20_ : Aside0 (gb241 ≠ gb307) := ⟨h20_⟩
      have n21_ : Aside0 (gb307 ≠ gb241) := ⟨h21_⟩
      have n22_ : Aside0 (gb242 ≠ gb307) := ⟨h22_⟩
      have n23_ : Aside0 (gb307 ≠ gb242) := ⟨h23_⟩
      have n24_ : Aside0 (gb258 ≠ gb307) := ⟨h24_⟩
      have n25_ : Aside0 (gb307 ≠ gb258) := ⟨h25_⟩
      have n26_ : Aside0 (gb263 ≠ gb307) := ⟨h26_⟩
      have n27_ : Aside0 (gb307 ≠ gb263) := ⟨h27_⟩
      have n28_ : Aside0 (gb268 ≠ gb307) := ⟨h28_⟩
      have n29_ : Aside0 (gb307 ≠ gb268) := ⟨h29_⟩
      have n30_ : Aside0 (gb274 ≠ gb307) := ⟨h30_⟩
      have n31_ : Aside0 (gb307 ≠ gb274) := ⟨h31_⟩
      have n32_ : Aside0 (Below w.heap.size w w127) := ⟨h32_⟩
      clear HO248 HO252 HO256 HO262 HO267 HO272 HO279 HO284 BK241 BK242 BK258 BK263 BK268 BK274 HB h0_ h1_ h2_ h3_ h4_ h5_ h6_ h7_ h8_ h9_ h10_ h11_ h12_ h13_ h14_ h15_ h16_ h17_ h18_ h19_ h20_ h21_ h22_ h23_ h24_ h25_ h26_ h27_ h28_ h29_ h30_ h31_ h32_
      have HO248 := n0_
      have HO252 := n1_
      have HO256 := n2_
      have HO262 := n3_
      have HO267 := n4_
      have HO272 := n5_
      have HO279 := n6_
      have HO284 := n7_
      have HO297 := n8_
      have HO301 := n9_
      have HO305 := n10_
      have BK241 := n11_
      have BK242 := n12_
      have BK258 := n13_
      have BK263 := n14_
      have BK268 := n15_
      have BK274 := n16_
      have BK307 := n17_
      have GW307 := n18_
      have GE307 := n19_
      have NB241_307 := n20_
      have NB307_241 := n21_
      have NB242_307 := n22_
      have NB307_242 := n23_
      have NB258_307 := n24_
      have NB307_258 := n25_
      have NB263_307 := n26_
      have NB307_263 := n27_
      have NB268_307 := n28_
      have NB307_268 := n29_
      have NB274_307 := n30_
      have NB307_274 := n31_
      have HB := n32_
      clear n0_ n1_ n2_ n3_ n4_ n5_ n6_ n7_ n8_ n9_ n10_ n11_ n12_ n13_ n14_ n15_ n16_ n17_ n18_ n19_ n20_ n21_ n22_ n23_ n24_ n25_ n26_ n27_ n28_ n29_ n30_ n31_ n32_
      have hHeld : w127.cell? ⟨gb241, 0, none⟩ = some (.int .i64 a0_0) ∧ w127.cell? ⟨gb241, 1, none⟩ = some (.slice A0_1 l0_1.length c0_1) ∧ w127.cell? ⟨gb242, 0, none⟩ = some (.int .i64 a1_0) ∧ w127.cell? ⟨gb242, 1, none⟩ = some (.slice A1_1 l1_1.length c1_1) := hS_
      obtain ⟨Ao129, co129, eo129⟩ := Kd.R_slice HO305.out
      (first | subst eo129 | (injection eo129 with f1_ f2_ f3_; have f4_ := f1_.symm; have f5_ := f3_.symm; clear f1_ f2_ f3_; subst f4_; subst f5_))
      refine norm_ (a' := ?_) ?_ ?_
      rotate_left
      · simp only [putAll, Act.put, List.setIfInBounds_toArray, List.set_cons_zero, List.set_cons_succ]
        rfl
      refine one_ (i := 9) (N := none) #[true, true, true, true, true, true, true, true, true, true, false] rfl rfl (one_of HT_.out (by kernel_rfl)) (by decide) (fun K hK => ?_)
      have hs128 : w127.cell? ⟨gb307, 0, none⟩ = some (.int .i64 0) := (blk_cell BK307.out 0).trans rfl
      have hfs128 := blk_frozen BK307.out 0
      have hns128_0 := NB241_307.out
      have hns128_1 := NB242_307.out
      have hns128_2 := NB258_307.out
      have hns128_3 := NB263_307.out
      have hns128_4 := NB268_307.out
      have hns128_5 := NB274_307.out
      have hms128_0 := NB307_241.out
      have hms128_1 := NB307_242.out
      have hms128_2 := NB307_258.out
      have hms128_3 := NB307_263.out
      have hms128_4 := NB307_268.out
      have hms128_5 := NB307_274.out
      have hs130 : w127.cell? ⟨gb307, 1, none⟩ = some (.slice none 0 0) := (blk_cell BK307.out 1).trans rfl
      have hfs130 := blk_frozen BK307.out 1
      have hns130_0 := NB241_307.out
      have hns130_1 := NB242_307.out
      have hns130_2 := NB258_307.out
      have hns130_3 := NB263_307.out
      have hns130_4 := NB268_307.out
      have hns130_5 := NB274_307.out
      have hms130_0 := NB307_241.out
      have hms130_1 := NB307_242.out
      have hms130_2 := NB307_258.out
      have hms130_3 := NB307_263.out
      have hms130_4 := NB307_268.out
      have hms130_5 := NB307_274.out
      refine skip_ (w1 := ?_) (by rfl) rfl ?_ ?_
      rotate_left
      · go_simp
        rfl
      refine hK.out _ _ ⟨((cell_far (p := ⟨gb307, _, none⟩) NB241_307.out _).trans (((cell_far (p := ⟨gb307, _, none⟩) NB241_307.out _).trans (hHeld.1)))), ((cell_far (p := ⟨gb307, _, none⟩) NB241_307.out _).trans (((cell_far (p := ⟨gb307, _, none⟩) NB241_307.out _).trans (hHeld.2.1)))), ((cell_far (p := ⟨gb307, _, none⟩) NB242_307.out _).trans (((cell_far (p := ⟨gb307, _, none⟩) NB242_307.out _).trans (hHeld.2.2.1)))), ((cell_far (p := ⟨gb307, _, none⟩) NB242_307.out _).trans (((cell_far (p := ⟨gb307, _, none⟩) NB242_307.out _).trans (hHeld.2.2.2))))⟩ (fun hHeld => ?_)
      clear hK K
      refine pure_ (i := 10) (N := some 16) (v := ?_) (a' := ?_) #[true, true, true, true, true, true, true, true, true, true, true] rfl rfl (any_of HT_.out (by kernel_rfl)) (fun _ _ _ h => h) (Or.inl ⟨by rfl, ?_⟩) ?_ ?_
      rotate_left
      · intro w'
        go_simp
        with_reducible rfl
      rotate_left
      · simp only [Act.put, List.setIfInBounds_toArray, List.set_cons_zero, List.set_cons_succ, i64_w, i32_w]
        rfl
      refine done_ (done_of HT_.out (by kernel_rfl)) ?_
      have hnb131 := NB307_241.out
      have hnc131 := NB241_307.out
      have hnb132 := NB307_242.out
      have hnc132 := NB242_307.out
      have hnb133 := NB307_258.out
      have hnc133 := NB258_307.out
      have hnb134 := NB307_263.out
      have hnc134 := NB263_307.out
      have hnb135 := NB307_268.out
      have hnc135 := NB268_307.out
      have hnb136 := NB307_274.out
      have hnc136 := NB274_307.out
      have hcz137_0 : w127.cell? ⟨gb307, 0, none⟩ = some (.int .i64 0) := (blk_cell BK307.out 0).trans rfl
      have hcz137_1 : w127.cell? ⟨gb307, 1, none⟩ = some (.slice none 0 0) := (blk_cell BK307.out 1).trans rfl
      have hfz137_0 := blk_frozen BK307.out 0
      have hfz137_1 := blk_frozen BK307.out 1
      have hcz138_0 : w127.cell? ⟨gb258, 0, none⟩ = some (.int .i64 t253) := (blk_cell BK258.out 0).trans rfl
      have hcz138_1 : w127.cell? ⟨gb258, 1, none⟩ = some (.slice Ao68 t254.length co68) := (blk_cell BK258.out 1).trans rfl
      have hfz138_0 := blk_frozen BK258.out 0
      have hfz138_1 := blk_frozen BK258.out 1
      try go_wp2_with (first | ((with_reducible refine gate_callee (f := 14) rfl ?_); refine goesL_ (some 104) rfl rfl Try.func14 (by kernel_rfl) rfl #[.agg #[.int .i64 t302, .slice Ao129 t303.length co129], .agg #[.int .i64 t253, .slice Ao68 t254.length co68]] rfl (by (try simp only [List.map_toArray, List.map_cons, List.map_nil]); first | done | rfl | (simp only [List.length_drop, List.length_take]; rfl)) ?_; (with_reducible refine (laws_eqRing.calls k t302 _ _ t303 t253 _ _ t254 true _ ?side1 ?side2 ?side3 ?side4 A46.out).mono ?_); (case side1 => exact (Kd.R_reads' (rk (Kd.R_far (p := ⟨gb307, 1, none⟩) (Kd.R_far (p := ⟨gb307, 0, none⟩) (Kd.R_types HO305.out BK307.out (by decide)) (fun _ hk => hk.2) (.int .i64 t302)) (fun _ hk => hk.2) (.slice Ao129 t303.length co129)))).2.2); (case side2 => exact (Kd.R_reads' HO305.out).2.1); (case side3 => exact (Kd.R_reads' (rk (Kd.R_far (p := ⟨gb307, 1, none⟩) (Kd.R_far (p := ⟨gb307, 0, none⟩) (Kd.R_types HO256.out BK307.out (by decide)) (fun _ hk => hk.2) (.int .i64 t302)) (fun _ hk => hk.2) (.slice Ao129 t303.length co129)))).2.2); (case side4 => exact (Kd.R_reads' HO256.out).2.1); rintro e w139 ⟨rfl, hb⟩; refine ⟨_, rfl, ?_⟩; have n0_ := Aside0.mk (Kd.R_below (rk (Kd.R_mono (Kd.R_far (p := ⟨gb307, 1, none⟩) (Kd.R_far (p := ⟨gb307, 0, none⟩) (Kd.R_types HO248.out BK307.out (by decide)) (fun _ hk => hk.2) (.int .i64 t302)) (fun _ hk => hk.2) (.slice Ao129 t303.length co129)) (fun _ h_ => h_.1))) hb); have n1_ := Aside0.mk (Kd.R_below (rk (Kd.R_mono (Kd.R_far (p := ⟨gb307, 1, none⟩) (Kd.R_far (p := ⟨gb307, 0, none⟩) (Kd.R_types HO252.out BK307.out (by decide)) (fun _ hk => hk.2) (.int .i64 t302)) (fun _ hk => hk.2) (.slice Ao129 t303.length co129)) (fun _ h_ => h_.1))) hb); have n2_ := Aside0.mk (Kd.R_below (rk (Kd.R_mono (Kd.R_far (p := ⟨gb307, 1, none⟩) (Kd.R_far (p := ⟨gb307, 0, none⟩) (Kd.R_types HO256.out BK307.out (by decide)) (fun _ hk => hk.2) (.int .i64 t302)) (fun _ hk => hk.2) (.slice Ao129 t303.length co129)) (fun _ h_ => h_.1))) hb); have n3_ := Aside0.mk (Kd.R_below (rk (Kd.R_mono (Kd.R_far (p := ⟨gb307, 1, none⟩) (Kd.R_far (p := ⟨gb307, 0, none⟩) (Kd.R_types HO262.out BK307.out (by decide)) (fun _ hk => hk.2) (.int .i64 t302)) (fun _ hk => hk.2) (.slice Ao129 t303.length co129)) (fun _ h_ => h_.1))) hb); have n4_ := Aside0.mk (Kd.R_below (rk (Kd.R_mono (Kd.R_far (p := ⟨gb307, 1, none⟩) (Kd.R_far (p := ⟨gb307, 0, none⟩) (Kd.R_types HO267.out BK307.out (by decide)) (fun _ hk => hk.2) (.int .i64 t302)) (fun _ hk => hk.2) (.slice Ao129 t303.length co129)) (fun _ h_ => h_.1))) hb); have n5_ := Aside0.mk (Kd.R_below (rk (Kd.R_mono (Kd.R_far (p := ⟨gb307, 1, none⟩) (Kd.R_far (p := ⟨gb307, 0, none⟩) (Kd.R_types HO272.out BK307.out (by decide)) (fun _ hk => hk.2) (.int .i64 t302)) (fun _ hk => hk.2) (.slice Ao129 t303.length co129)) (fun _ h_ => h_.1))) hb); have n6_ := Aside0.mk (Kd.R_below (rk (Kd.R_mono (Kd.R_far (p := ⟨gb307, 1, none⟩) (Kd.R_far (p := ⟨gb307, 0, none⟩) (Kd.R_types HO279.out BK307.out (by decide)) (fun _ hk => hk.2) (.int .i64 t302)) (fun _ hk => hk.2) (.slice Ao129 t303.length co129)) (fun _ h_ => h_.1))) hb); have n7_ := Aside0.mk (Kd.R_below (rk (Kd.R_mono (Kd.R_far (p := ⟨gb307, 1, none⟩) (Kd.R_far (p := ⟨gb307, 0, none⟩) (Kd.R_types HO284.out BK307.out (by decide)) (fun _ hk => hk.2) (.int .i64 t302)) (fun _ hk => hk.2) (.slice Ao129 t303.length co129)) (fun _ h_ => h_.1))) hb); have n8_ := Aside0.mk (Kd.R_below (rk (Kd.R_mono (Kd.R_far (p := ⟨gb307, 1, none⟩) (Kd.R_far (p := ⟨gb307, 0, none⟩) (Kd.R_types HO297.out BK307.out (by decide)) (fun _ hk => hk.2) (.int .i64 t302)) (fun _ hk => hk.2) (.slice Ao129 t303.length co129)) (fun _ h_ => h_.1))) hb); have n9_ := Aside0.mk (Kd.R_below (rk (Kd.R_mono (Kd.R_far (p := ⟨gb307, 1, none⟩) (Kd.R_far (p := ⟨gb307, 0, none⟩) (Kd.R_types HO301.out BK307.out (by decide)) (fun _ hk => hk.2) (.int .i64 t302)) (fun _ hk => hk.2) (.slice Ao129 t303.length co129)) (fun _ h_ => h_.1))) hb); have n10_ := Aside0.mk (Kd.R_below (rk (Kd.R_mono (Kd.R_far (p := ⟨gb307, 1, none⟩) (Kd.R_far (p := ⟨gb307, 0, none⟩) (Kd.R_types HO305.out BK307.out (by decide)) (fun _ hk => hk.2) (.int .i64 t302)) (fun _ hk => hk.2) (.slice Ao129 t303.length co129)) (fun _ h_ => h_.1))) hb); have n11_ := Aside0.mk (blk_below (g := gb241) (o := .cells #[.int .i64 a0_0, .slice A0_1 l0_1.length c0_1] 32 (0, 0)) (by (with_reducible repeat (first | refine blk_drewN ?_ _ | refine blk_drew ?_ | refine blk_alloc ?_ _)); refine blk_far ?_ NB241_307.out _; (with_reducible repeat (first | refine blk_drewN ?_ _ | refine blk_drew ?_ | refine blk_alloc ?_ _)); refine blk_far ?_ NB241_307.out _; (with_reducible repeat (first | refine blk_drewN ?_ _ | refine blk_drew ?_ | refine blk_alloc ?_ _)); exact BK241.out) hb); have n12_ := Aside0.mk (blk_below (g := gb242) (o := .cells #[.int .i64 a1_0, .slice A1_1 l1_1.length c1_1] 32 (0, 0)) (by (with_reducible repeat (first | refine blk_drewN ?_ _ | refine blk_drew ?_ | refine blk_alloc ?_ _)); refine blk_far ?_ NB242_307.out _; (with_reducible repeat (first | refine blk_drewN ?_ _ | refine blk_drew ?_ | refine blk_alloc ?_ _)); refine blk_far ?_ NB242_307.out _; (with_reducible repeat (first | refine blk_drewN ?_ _ | refine blk_drew ?_ | refine blk_alloc ?_ _)); exact BK242.out) hb); have n13_ := Aside0.mk (blk_below (g := gb258) (o := .cells #[.int .i64 t253, .slice Ao68 t254.length co68] 24 (0, 0)) (by (with_reducible repeat (first | refine blk_drewN ?_ _ | refine blk_drew ?_ | refine blk_alloc ?_ _)); refine blk_far ?_ NB258_307.out _; (with_reducible repeat (first | refine blk_drewN ?_ _ | refine blk_drew ?_ | refine blk_alloc ?_ _)); refine blk_far ?_ NB258_307.out _; (with_reducible repeat (first | refine blk_drewN ?_ _ | refine blk_drew ?_ | refine blk_alloc ?_ _)); exact BK258.out) hb); have n14_ := Aside0.mk (blk_below (g := gb263) (o := .cells #[.int .i64 t259, .slice Ao78 t260.length co78] 24 (0, 0)) (by (with_reducible repeat (first | refine blk_drewN ?_ _ | refine blk_drew ?_ | refine blk_alloc ?_ _)); refine blk_far ?_ NB263_307.out _; (with_reducible repeat (first | refine blk_drewN ?_ _ | refine blk_drew ?_ | refine blk_alloc ?_ _)); refine blk_far ?_ NB263_307.out _; (with_reducible repeat (first | refine blk_drewN ?_ _ | refine blk_drew ?_ | refine blk_alloc ?_ _)); exact BK263.out) hb); have n15_ := Aside0.mk (blk_below (g := gb268) (o := .cells #[.int .i64 t264, .slice Ao88 t265.length co88] 24 (0, 0)) (by (with_reducible repeat (first | refine blk_drewN ?_ _ | refine blk_drew ?_ | refine blk_alloc ?_ _)); refine blk_far ?_ NB268_307.out _; (with_reducible repeat (first | refine blk_drewN ?_ _ | refine blk_drew ?_ | refine blk_alloc ?_ _)); refine blk_far ?_ NB268_307.out _; (with_reducible repeat (first | refine blk_drewN ?_ _ | refine blk_drew ?_ | refine blk_alloc ?_ _)); exact BK268.out) hb); have n16_ := Aside0.mk (blk_below (g := gb274) (o := .cells #[.int .i64 t269, .slice Ao98 t270.length co98] 24 (0, 0)) (by (with_reducible repeat (first | refine blk_drewN ?_ _ | refine blk_drew ?_ | refine blk_alloc ?_ _)); refine blk_far ?_ NB274_307.out _; (with_reducible repeat (first | refine blk_drewN ?_ _ | refine blk_drew ?_ | refine blk_alloc ?_ _)); refine blk_far ?_ NB274_307.out _; (with_reducible repeat (first | refine blk_drewN ?_ _ | refine blk_drew ?_ | refine blk_alloc ?_ _)); exact BK274.out) hb); have n17_ := Aside0.mk (blk_below (g := gb307) (o := .cells #[.int .i64 t302, .slice Ao129 t303.length co129] 24 (0, 0)) (by (with_reducible repeat (first | refine blk_drewN ?_ _ | refine blk_drew ?_ | refine blk_alloc ?_ _)); refine blk_put (cs := #[.int .i64 t302, .slice none 0 0]) ?_ 1 _ rfl; (with_reducible repeat (first | refine blk_drewN ?_ _ | refine blk_drew ?_ | refine blk_alloc ?_ _)); refine blk_put (cs := #[.int .i64 0, .slice none 0 0]) ?_ 0 _ rfl; (with_reducible repeat (first | refine blk_drewN ?_ _ | refine blk_drew ?_ | refine blk_alloc ?_ _)); exact BK307.out) hb); have n18_ := Aside0.mk (below_step (bks HB.out) hb); clear HO248; clear HO252; clear HO256; clear HO262; clear HO267; clear HO272; clear HO279; clear HO284; clear HO297; clear HO301; clear HO305; clear BK241; clear BK242; clear BK258; clear BK263; clear BK268; clear BK274; clear BK307; clear HB; have HO248 := n0_; have HO252 := n1_; have HO256 := n2_; have HO262 := n3_; have HO267 := n4_; have HO272 := n5_; have HO279 := n6_; have HO284 := n7_; have HO297 := n8_; have HO301 := n9_; have HO305 := n10_; have BK241 := n11_; have BK242 := n12_; have BK258 := n13_; have BK263 := n14_; have BK268 := n15_; have BK274 := n16_; have BK307 := n17_; have HB := n18_; clear n0_ n1_ n2_ n3_ n4_ n5_ n6_ n7_ n8_ n9_ n10_ n11_ n12_ n13_ n14_ n15_ n16_ n17_ n18_; (try clear hb); (try clear hb2); (try clear hk); (try clear hi); have hcz140_0 : w139.cell? ⟨gb274, 0, none⟩ = some (.int .i64 t269) := (blk_cell BK274.out 0).trans rfl; have hcz140_1 : w139.cell? ⟨gb274, 1, none⟩ = some (.slice Ao98 t270.length co98) := (blk_cell BK274.out 1).trans rfl; have hfz140_0 := blk_frozen BK274.out 0; have hfz140_1 := blk_frozen BK274.out 1) | ((with_reducible refine gate_callee (f := 16) rfl ?_); refine goesL_ (some 113) rfl rfl Try.func16 (by kernel_rfl) rfl #[.agg #[.int .i64 t269, .slice Ao98 t292.length co98], .int .i64 1] rfl (by (try simp only [List.map_toArray, List.map_cons, List.map_nil]); first | done | (rw [show t292.length = t270.length from (Kd.R_reads' HO272.out).1.symm] <;> rfl) | rfl | (simp only [List.length_drop, List.length_take]; rfl)) ?_; (with_reducible refine (laws_heldRing.calls k t269 _ _ t292 1 t309 _ ?side1 ?side2 A49.out).mono ?_); (case side1 => repeat (first | exact (Kd.R_reads' HO272.out).2.2 | (with_reducible refine Kd.C_alloc ?_ _) | (with_reducible refine Kd.C_drewN ?_ _) | (with_reducible refine Kd.C_drew ?_))); (case side2 => rw [show t292.length = t270.length from (Kd.R_reads' HO272.out).1.symm]; exact (Kd.R_reads' HO272.out).2.1); rintro e w141 ⟨rfl, hb⟩; refine ⟨_, rfl, ?_⟩; have n0_ := Aside0.mk (Kd.R_below (rk HO248.out) hb); have n1_ := Aside0.mk (Kd.R_below (rk HO252.out) hb); have n2_ := Aside0.mk (Kd.R_below (rk HO256.out) hb); have n3_ := Aside0.mk (Kd.R_below (rk HO262.out) hb); have n4_ := Aside0.mk (Kd.R_below (rk HO267.out) hb); have n5_ := Aside0.mk (Kd.R_below (rk HO272.out) hb); have n6_ := Aside0.mk (Kd.R_below (rk HO279.out) hb); have n7_ := Aside0.mk (Kd.R_below (rk HO284.out) hb); have n8_ := Aside0.mk (Kd.R_below (rk HO297.out) hb); have n9_ := Aside0.mk (Kd.R_below (rk HO301.out) hb); have n10_ := Aside0.mk (Kd.R_below (rk HO305.out) hb); have n11_ := Aside0.mk (blk_below (pk BK241.out) hb); have n12_ := Aside0.mk (blk_below (pk BK242.out) hb); have n13_ := Aside0.mk (blk_below (pk BK258.out) hb); have n14_ := Aside0.mk (blk_below (pk BK263.out) hb); have n15_ := Aside0.mk (blk_below (pk BK268.out) hb); have n16_ := Aside0.mk (blk_below (pk BK274.out) hb); have n17_ := Aside0.mk (blk_below (pk BK307.out) hb); have n18_ := Aside0.mk (below_step (bks HB.out) hb); clear HO248; clear HO252; clear HO256; clear HO262; clear HO267; clear HO272; clear HO279; clear HO284; clear HO297; clear HO301; clear HO305; clear BK241; clear BK242; clear BK258; clear BK263; clear BK268; clear BK274; clear BK307; clear HB; have HO248 := n0_; have HO252 := n1_; have HO256 := n2_; have HO262 := n3_; have HO267 := n4_; have HO272 := n5_; have HO279 := n6_; have HO284 := n7_; have HO297 := n8_; have HO301 := n9_; have HO305 := n10_; have BK241 := n11_; have BK242 := n12_; have BK258 := n13_; have BK263 := n14_; have BK268 := n15_; have BK274 := n16_; have BK307 := n17_; have HB := n18_; clear n0_ n1_ n2_ n3_ n4_ n5_ n6_ n7_ n8_ n9_ n10_ n11_ n12_ n13_ n14_ n15_ n16_ n17_ n18_; (try clear hb); (try clear hb2); (try clear hk); (try clear hi)))
      go_ret
      exact ⟨by first | rfl | (simp [errW_none, errW_some] <;> rfl) | (simp [*, errW_none, errW_some] <;> rfl), bks HB.out⟩
/-- THE ONE PURE STATEMENT of laws_FnExactMultiplyRings. -/
def laws_FnExactMultiplyRings.Pure : Prop := ∀ (a0_0 : Int) (l0_1 : List Int) (a1_0 : Int) (l1_1 : List Int), (Lit.int .i64 a0_0).wf = true → l0_1.length ≤ maxLen → (∀ x ∈ l0_1, (Lit.int .i64 x).wf = true) → (Lit.int .i64 a1_0).wf = true → l1_1.length ≤ maxLen → (∀ x ∈ l1_1, (Lit.int .i64 x).wf = true) → ∃ k, laws_FnExactMultiplyRings.f k a0_0 l0_1 a1_0 l1_1 = some true
theorem laws_FnExactMultiplyRings.walk (P : laws_FnExactMultiplyRings.Pure) (a0_0 : Int) (a0_1 : Option Addr) (len0_1 cap0_1 : Nat) (z0_1 : List Int) (a1_0 : Int) (a1_1 : Option Addr) (len1_1 cap1_1 : Nat) (z1_1 : List Int) (w : World) (w0_0 : (Lit.int .i64 a0_0).wf = true) (w0_1 : ((a0_1 = none ∧ len0_1 = 0 ∧ cap0_1 = 0 ∧ z0_1 = []) ∨ ∃ x, a0_1 = some x ∧ len0_1 ≤ cap0_1 ∧ cap0_1 ≤ maxLen ∧ z0_1.length = cap0_1 ∧ (∀ i, i < z0_1.length → w.cell? (x.add i) = some (.int .i64 (z0_1.getD i 0))) ∧ ∀ n ∈ z0_1, (Lit.int .i64 n).wf = true)) (w1_0 : (Lit.int .i64 a1_0).wf = true) (w1_1 : ((a1_1 = none ∧ len1_1 = 0 ∧ cap1_1 = 0 ∧ z1_1 = []) ∨ ∃ x, a1_1 = some x ∧ len1_1 ≤ cap1_1 ∧ cap1_1 ≤ maxLen ∧ z1_1.length = cap1_1 ∧ (∀ i, i < z1_1.length → w.cell? (x.add i) = some (.int .i64 (z1_1.getD i 0))) ∧ ∀ n ∈ z1_1, (Lit.int .i64 n).wf = true)) :
    Calls Try.prog 8 #[.agg #[.int .i64 a0_0, .slice a0_1 len0_1 cap0_1], .agg #[.int .i64 a1_0, .slice a1_1 len1_1 cap1_1]] w fun e w' => e = .returned (.bool true) ∧ Below w.heap.size w w' := by
  obtain ⟨l0_1, rfl, hr0_1, hm0_1, hw0_1, hc0_1⟩ := ReadsInt.ofRowC w0_1
  obtain ⟨l1_1, rfl, hr1_1, hm1_1, hw1_1, hc1_1⟩ := ReadsInt.ofRowC w1_1
  obtain ⟨k, h⟩ := P a0_0 l0_1 a1_0 l1_1 w0_0 hm0_1 hw0_1 w1_0 hm1_1 hw1_1
  refine (laws_FnExactMultiplyRings.calls k a0_0 _ _ l0_1 a1_0 _ _ l1_1 true w (Kd.C_of_reads (d := (0 : Int)) (h1 := fun _ => rfl) hr0_1) hc0_1 (Kd.C_of_reads (d := (0 : Int)) (h1 := fun _ => rfl) hr1_1) hc1_1 h).mono ?_
  rintro e w' ⟨rfl, hd⟩
  exact ⟨rfl, hd⟩

end Go.Proofs.Ythkdkiifchefhaa.PFnExactMultiplyRings
