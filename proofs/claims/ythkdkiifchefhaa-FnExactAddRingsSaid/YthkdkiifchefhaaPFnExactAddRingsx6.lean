-- LAID BY pp.py (a program of this repo): what the kit's print tells of this seat's functions, with contracts by hand
import Derived.Test.YthkdkiifchefhaaPFnExactAddRingsx0
import Derived.Test.YthkdkiifchefhaaPFnExactAddRingsx1
import Derived.Test.YthkdkiifchefhaaPFnExactAddRingsx3
import Derived.Test.YthkdkiifchefhaaPFnExactAddRingsx5
namespace Go.Proofs.Ythkdkiifchefhaa.PFnExactAddRings
open Go.RowKit Go.Proofs.YthkdkiifchefhaaW.PrintWords Go.Proofs.YthkdkiifchefhaaW.PrintLast Go.Proofs.YthkdkiifchefhaaW.PrintMore
attribute [local go_sem] max2_int min2_int max_two min_two max_three min_three max_four min_four   -- for this text's walks alone
set_option linter.unusedVariables false
set_option linter.unusedSimpArgs false

/-! ### laws_FnExactAddRings: function 7 -/
def laws_FnExactAddRings.f (k : Nat) (a0_0 : Int) (l0_1 : List Int) (a1_0 : Int) (l1_1 : List Int) (a2 : Int) : Option (Bool) := (laws_szRing.f a0_0 l0_1 1048576).bind fun t207 => (if t207 < 0 then (some true) else ((laws_szRing.f a1_0 l1_1 t207).bind fun t208 => (if t208 < 0 then (some true) else ((laws_toRing.f k a0_0 l0_1).bind fun bt209 => ((laws_toRing.f k a1_0 l1_1).bind fun bt213 => ((spec_AddRings.f k bt209.1 bt209.2 bt213.1 bt213.2 a2).bind fun bt217 => ((laws_toRing.f k a0_0 l0_1).bind fun bt223 => ((laws_toRing.f k a1_0 l1_1).bind fun bt228 => ((impl_AddRings.f k bt223.1 bt223.2 bt228.1 bt228.2 a2).bind fun bt233 => ((laws_eqRing.f k bt233.1 bt233.2.1 bt217.1 bt217.2.1).bind fun t239 => (if t239 = true then (if bt233.2.2 = bt217.2.2 then ((laws_toRing.f k a0_0 l0_1).bind fun bt240 => ((laws_eqRing.f k bt223.1 bt223.2 bt240.1 bt240.2).bind fun t244 => (if t244 = true then ((laws_toRing.f k a1_0 l1_1).bind fun bt245 => ((laws_eqRing.f k bt228.1 bt228.2 bt245.1 bt245.2).bind fun t249 => (if t249 = true then ((laws_markRing.f k bt223.1 bt223.2 1).bind fun bt250 => ((laws_markRing.f k bt228.1 bt228.2 bt250.1).bind fun bt252 => (if bt252.1 < 0 then (none) else ((laws_eqRing.f k bt233.1 bt233.2.1 bt217.1 bt217.2.1).bind fun t254 => (if t254 = true then ((laws_markRing.f k bt233.1 bt233.2.1 1).bind fun bt255 => ((laws_heldRing.f k bt233.1 bt255.2 1).bind fun t257 => (if t257 < 0 then (none) else (if t257 = bt255.1 then ((laws_toRing.f k a0_0 l0_1).bind fun bt258 => ((laws_toRing.f k a1_0 l1_1).bind fun bt262 => ((impl_AddRings.f k bt258.1 bt258.2 bt262.1 bt262.2 a2).bind fun bt266 => ((laws_eqRing.f k bt266.1 bt266.2.1 bt217.1 bt217.2.1).bind fun t272 => (if t272 = true then (if bt266.2.2 = bt217.2.2 then ((laws_heldRing.f k bt233.1 bt255.2 1).bind fun t273 => (if t273 < 0 then (none) else (if t273 = bt255.1 then (some true) else (none)))) else (none)) else (none)))))) else (none))))) else (none)))))) else (none)))) else (none)))) else (none)) else (none))))))))))))
theorem laws_FnExactAddRings.mono : ∀ a0 a1 a2 a3 a4 k, LeO (laws_FnExactAddRings.f k a0 a1 a2 a3 a4) (laws_FnExactAddRings.f (k + 1) a0 a1 a2 a3 a4) := by
  intro a0 a1 a2 a3 a4 k
  unfold laws_FnExactAddRings.f
  repeat' first
      | (with_reducible exact impl_AddRings.mono _ _ _ _ _ _)
      | (with_reducible exact laws_eqRing.mono _ _ _ _ _)
      | (with_reducible exact laws_heldRing.mono _ _ _ _)
      | (with_reducible exact laws_markRing.mono _ _ _ _)
      | (with_reducible exact laws_toRing.mono _ _ _)
      | (with_reducible exact spec_AddRings.mono _ _ _ _ _ _)
      | (with_reducible exact LeO.refl _)
      | (with_reducible exact LeO.none _)
      | (with_reducible refine LeO.ite ?_ ?_)
      | (with_reducible refine LeO.bind ?_ (fun _ => ?_))
      | exact impl_AddRings.mono _ _ _ _ _ _
      | exact laws_eqRing.mono _ _ _ _ _
      | exact laws_heldRing.mono _ _ _ _
      | exact laws_markRing.mono _ _ _ _
      | exact laws_toRing.mono _ _ _
      | exact spec_AddRings.mono _ _ _ _ _ _
      | exact LeO.none _
      | refine LeO.ite ?_ ?_
      | refine LeO.bind ?_ (fun _ => ?_)
def laws_FnExactAddRings.T8 : Bool × List (List Nat × List Nat) := (true, [([], []), ([0], [0]), ([], []), ([2, 1], [2]), ([], []), ([1, 3, 4, 3], [1, 3, 4]), ([5], [5]), ([6], [6]), ([6], [6]), ([], []), ([9, 7, 5, 0, 1, 2, 3, 4, 5, 6, 7, 9], [7, 9]), ([8, 10, 0, 1, 2, 3, 4, 5, 6, 7, 8, 9, 10], [8])])
def laws_FnExactAddRings.B8 : List Nat := [0, 1, 0, 7, 0, 31, 63, 127, 127, 0, 767, 2047]
theorem laws_FnExactAddRings.tab8 : rtab .any (opsOf Try.f7 8) = laws_FnExactAddRings.T8 := by kernel_rfl
theorem laws_FnExactAddRings.bits8 : waitsOk laws_FnExactAddRings.T8.2 laws_FnExactAddRings.B8 = true := by kernel_rfl
def laws_FnExactAddRings.T31 : Bool × List (List Nat × List Nat) := (true, [([], []), ([0], [0]), ([], []), ([2, 1], [2]), ([], []), ([1, 3, 4, 3], [1, 3, 4]), ([5], [5]), ([6], [6]), ([6], [6]), ([], []), ([9, 7, 5, 0, 1, 2, 3, 4, 5, 6, 7, 9], [7, 9]), ([8, 10, 0, 1, 2, 3, 4, 5, 6, 7, 8, 9, 10], [8])])
def laws_FnExactAddRings.B31 : List Nat := [0, 1, 0, 7, 0, 31, 63, 127, 127, 0, 767, 2047]
theorem laws_FnExactAddRings.tab31 : rtab .any (opsOf Try.f7 31) = laws_FnExactAddRings.T31 := by kernel_rfl
theorem laws_FnExactAddRings.bits31 : waitsOk laws_FnExactAddRings.T31.2 laws_FnExactAddRings.B31 = true := by kernel_rfl
set_option maxHeartbeats 8000000 in
set_option maxRecDepth 100000 in
theorem laws_FnExactAddRings.calls (k : Nat) (a0_0 : Int) (A0_1 : Option Addr) (c0_1 : Nat) (l0_1 : List Int) (a1_0 : Int) (A1_1 : Option Addr) (c1_1 : Nat) (l1_1 : List Int) (a2 : Int) (r : Bool) (w : World) (hr0_1 : Kd.C (Kd.int .i64) w A0_1 l0_1.length l0_1) (hc0_1 : l0_1.length ≤ c0_1) (hr1_1 : Kd.C (Kd.int .i64) w A1_1 l1_1.length l1_1) (hc1_1 : l1_1.length ≤ c1_1) (h : laws_FnExactAddRings.f k a0_0 l0_1 a1_0 l1_1 a2 = some r) :
    Calls Try.prog 7 #[.agg #[.int .i64 a0_0, .slice A0_1 l0_1.length c0_1], .agg #[.int .i64 a1_0, .slice A1_1 l1_1.length c1_1], .int .i64 a2] w fun e w' => e = .returned (.bool r) ∧ Below w.heap.size w w' := by
  have hu32 := Try.underlying32
  have hu24 := Try.underlying24
  have HR0_1 := Aside0.mk hr0_1
  have HC0_1 := Aside0.mk hc0_1
  clear hr0_1 hc0_1
  have HR1_1 := Aside0.mk hr1_1
  have HC1_1 := Aside0.mk hc1_1
  clear hr1_1 hc1_1
  have HB := Aside0.mk (Below.refl w.heap.size w)
  have H : ((laws_szRing.f a0_0 l0_1 1048576).bind fun t207 => (if t207 < 0 then (some true) else ((laws_szRing.f a1_0 l1_1 t207).bind fun t208 => (if t208 < 0 then (some true) else ((laws_toRing.f k a0_0 l0_1).bind fun bt209 => ((laws_toRing.f k a1_0 l1_1).bind fun bt213 => ((spec_AddRings.f k bt209.1 bt209.2 bt213.1 bt213.2 a2).bind fun bt217 => ((laws_toRing.f k a0_0 l0_1).bind fun bt223 => ((laws_toRing.f k a1_0 l1_1).bind fun bt228 => ((impl_AddRings.f k bt223.1 bt223.2 bt228.1 bt228.2 a2).bind fun bt233 => ((laws_eqRing.f k bt233.1 bt233.2.1 bt217.1 bt217.2.1).bind fun t239 => (if t239 = true then (if bt233.2.2 = bt217.2.2 then ((laws_toRing.f k a0_0 l0_1).bind fun bt240 => ((laws_eqRing.f k bt223.1 bt223.2 bt240.1 bt240.2).bind fun t244 => (if t244 = true then ((laws_toRing.f k a1_0 l1_1).bind fun bt245 => ((laws_eqRing.f k bt228.1 bt228.2 bt245.1 bt245.2).bind fun t249 => (if t249 = true then ((laws_markRing.f k bt223.1 bt223.2 1).bind fun bt250 => ((laws_markRing.f k bt228.1 bt228.2 bt250.1).bind fun bt252 => (if bt252.1 < 0 then (none) else ((laws_eqRing.f k bt233.1 bt233.2.1 bt217.1 bt217.2.1).bind fun t254 => (if t254 = true then ((laws_markRing.f k bt233.1 bt233.2.1 1).bind fun bt255 => ((laws_heldRing.f k bt233.1 bt255.2 1).bind fun t257 => (if t257 < 0 then (none) else (if t257 = bt255.1 then ((laws_toRing.f k a0_0 l0_1).bind fun bt258 => ((laws_toRing.f k a1_0 l1_1).bind fun bt262 => ((impl_AddRings.f k bt258.1 bt258.2 bt262.1 bt262.2 a2).bind fun bt266 => ((laws_eqRing.f k bt266.1 bt266.2.1 bt217.1 bt217.2.1).bind fun t272 => (if t272 = true then (if bt266.2.2 = bt217.2.2 then ((laws_heldRing.f k bt233.1 bt255.2 1).bind fun t273 => (if t273 < 0 then (none) else (if t273 = bt255.1 then (some true) else (none)))) else (none)) else (none)))))) else (none))))) else (none)))))) else (none)))) else (none)))) else (none)) else (none))))))))))))) = some r := h
  clear h
  replace H := Option.bind_eq_some_iff.mp H
  obtain ⟨t207, A40, H⟩ := H
  try dsimp only at H
  have A4 := Aside0.mk A40
  clear A40
  by_cases c5 : t207 < 0
  · rw [if_pos c5] at H
    have c5b0 : decide (t207 < 0) = true := decide_eq_true c5
    clear c5
    obtain rfl := Option.some.inj H
    go_enter Try.func7, Try.ntmps7
    go_wp2_with (first | ((with_reducible refine gate_dst (N := 3) rfl ?_); refine box_event ?hg (N := 3) ?hd (cs := #[.int .i64 a0_0, .slice A0_1 l0_1.length c0_1]) (t := 32) ?hr ?_; (case hd => rfl); (case hg => rfl); (case hr => first | (go_simp; done) | (go_simp; rfl)); intro gb205 hg w6 hbox hb; have n0_ := Aside0.mk (below_step (bk HB.out) hb); have n1_ := Aside0.mk (hbox); have n2_ := Aside0.mk ((by rw [hg]; exact (below_size (bk HB.out)) : w.heap.size ≤ gb205)); have n3_ := Aside0.mk ((by rw [hg]; exact (below_size (bk HB.out)) : w.heap.size ≤ gb205)); clear HB; have HB := n0_; have BK205 := n1_; have GW205 := n2_; have GE205 := n3_; clear n0_ n1_ n2_ n3_; clear hb hbox hg) | ((with_reducible refine gate_dst (N := 4) rfl ?_); refine box_event ?hg (N := 4) ?hd (cs := #[.int .i64 a1_0, .slice A1_1 l1_1.length c1_1]) (t := 32) ?hr ?_; (case hd => rfl); (case hg => rfl); (case hr => first | (go_simp; done) | (go_simp; rfl)); intro gb206 hg w7 hbox hb; have n0_ := Aside0.mk (blk_below (pk BK205.out) hb); have n1_ := Aside0.mk (below_step (bks HB.out) hb); have n2_ := Aside0.mk (hbox); have n3_ := Aside0.mk ((by rw [hg]; exact (below_size (bks HB.out)) : w.heap.size ≤ gb206)); have n4_ := Aside0.mk ((by rw [hg]; exact (below_size (bks HB.out)) : w.heap.size ≤ gb206)); have n5_ := Aside0.mk ((by rw [hg]; exact Nat.ne_of_lt (blk_lt (g := gb205) (o := .cells #[.int .i64 a0_0, .slice A0_1 l0_1.length c0_1] 32 (0, 0)) (pk BK205.out)) : gb205 ≠ gb206)); have n6_ := Aside0.mk ((by rw [hg]; exact Nat.ne_of_gt (blk_lt (g := gb205) (o := .cells #[.int .i64 a0_0, .slice A0_1 l0_1.length c0_1] 32 (0, 0)) (pk BK205.out)) : gb206 ≠ gb205)); clear BK205; clear HB; have BK205 := n0_; have HB := n1_; have BK206 := n2_; have GW206 := n3_; have GE206 := n4_; have NB205_206 := n5_; have NB206_205 := n6_; clear n0_ n1_ n2_ n3_ n4_ n5_ n6_; clear hb hbox hg; have hnb8 := NB205_206.out; have hnc8 := NB206_205.out; have hcz9_0 : w7.cell? ⟨gb205, 0, none⟩ = some (.int .i64 a0_0) := (blk_cell BK205.out 0).trans rfl; have hcz9_1 : w7.cell? ⟨gb205, 1, none⟩ = some (.slice A0_1 l0_1.length c0_1) := (blk_cell BK205.out 1).trans rfl; have hfz9_0 := blk_frozen BK205.out 0; have hfz9_1 := blk_frozen BK205.out 1) | ((with_reducible refine gate_callee (f := 19) rfl ?_); refine goesL_ (some 21) rfl rfl Try.func19 (by kernel_rfl) rfl #[.agg #[.int .i64 a0_0, .slice A0_1 l0_1.length c0_1], .int .i64 1048576] rfl (by (try simp only [List.map_toArray, List.map_cons, List.map_nil]); first | done | rfl | (simp only [List.length_drop, List.length_take]; rfl)) ?_; (with_reducible refine (laws_szRing.calls a0_0 _ _ l0_1 1048576 t207 _ ?side1 ?side2 A4.out).mono ?_); (case side1 => repeat (first | exact (Kd.C_below HR0_1.out HB.out) | (with_reducible refine Kd.C_alloc ?_ _) | (with_reducible refine Kd.C_drewN ?_ _) | (with_reducible refine Kd.C_drew ?_))); (case side2 => exact HC0_1.out); rintro e w10 ⟨rfl, hb⟩; refine ⟨_, rfl, ?_⟩; have n0_ := Aside0.mk (blk_below (pk BK205.out) hb); have n1_ := Aside0.mk (blk_below (pk BK206.out) hb); have n2_ := Aside0.mk (below_step (bks HB.out) hb); clear BK205; clear BK206; clear HB; have BK205 := n0_; have BK206 := n1_; have HB := n2_; clear n0_ n1_ n2_; (try clear hb); (try clear hb2); (try clear hk); (try clear hi)))
    go_ret
    exact ⟨by first | rfl | (simp [errW_none, errW_some] <;> rfl) | (simp [*, errW_none, errW_some] <;> rfl), bks HB.out⟩
  · rw [if_neg c5] at H
    have c5b0 : decide (t207 < 0) = false := decide_eq_false c5
    clear c5
    replace H := Option.bind_eq_some_iff.mp H
    obtain ⟨t208, A110, H⟩ := H
    try dsimp only at H
    have A11 := Aside0.mk A110
    clear A110
    by_cases c12 : t208 < 0
    · rw [if_pos c12] at H
      have c12b0 : decide (t208 < 0) = true := decide_eq_true c12
      clear c12
      obtain rfl := Option.some.inj H
      go_enter Try.func7, Try.ntmps7
      go_wp2_with (first | ((with_reducible refine gate_dst (N := 3) rfl ?_); refine box_event ?hg (N := 3) ?hd (cs := #[.int .i64 a0_0, .slice A0_1 l0_1.length c0_1]) (t := 32) ?hr ?_; (case hd => rfl); (case hg => rfl); (case hr => first | (go_simp; done) | (go_simp; rfl)); intro gb205 hg w13 hbox hb; have n0_ := Aside0.mk (below_step (bk HB.out) hb); have n1_ := Aside0.mk (hbox); have n2_ := Aside0.mk ((by rw [hg]; exact (below_size (bk HB.out)) : w.heap.size ≤ gb205)); have n3_ := Aside0.mk ((by rw [hg]; exact (below_size (bk HB.out)) : w.heap.size ≤ gb205)); clear HB; have HB := n0_; have BK205 := n1_; have GW205 := n2_; have GE205 := n3_; clear n0_ n1_ n2_ n3_; clear hb hbox hg) | ((with_reducible refine gate_dst (N := 4) rfl ?_); refine box_event ?hg (N := 4) ?hd (cs := #[.int .i64 a1_0, .slice A1_1 l1_1.length c1_1]) (t := 32) ?hr ?_; (case hd => rfl); (case hg => rfl); (case hr => first | (go_simp; done) | (go_simp; rfl)); intro gb206 hg w14 hbox hb; have n0_ := Aside0.mk (blk_below (pk BK205.out) hb); have n1_ := Aside0.mk (below_step (bks HB.out) hb); have n2_ := Aside0.mk (hbox); have n3_ := Aside0.mk ((by rw [hg]; exact (below_size (bks HB.out)) : w.heap.size ≤ gb206)); have n4_ := Aside0.mk ((by rw [hg]; exact (below_size (bks HB.out)) : w.heap.size ≤ gb206)); have n5_ := Aside0.mk ((by rw [hg]; exact Nat.ne_of_lt (blk_lt (g := gb205) (o := .cells #[.int .i64 a0_0, .slice A0_1 l0_1.length c0_1] 32 (0, 0)) (pk BK205.out)) : gb205 ≠ gb206)); have n6_ := Aside0.mk ((by rw [hg]; exact Nat.ne_of_gt (blk_lt (g := gb205) (o := .cells #[.int .i64 a0_0, .slice A0_1 l0_1.length c0_1] 32 (0, 0)) (pk BK205.out)) : gb206 ≠ gb205)); clear BK205; clear HB; have BK205 := n0_; have HB := n1_; have BK206 := n2_; have GW206 := n3_; have GE206 := n4_; have NB205_206 := n5_; have NB206_205 := n6_; clear n0_ n1_ n2_ n3_ n4_ n5_ n6_; clear hb hbox hg; have hnb15 := NB205_206.out; have hnc15 := NB206_205.out; have hcz16_0 : w14.cell? ⟨gb205, 0, none⟩ = some (.int .i64 a0_0) := (blk_cell BK205.out 0).trans rfl; have hcz16_1 : w14.cell? ⟨gb205, 1, none⟩ = some (.slice A0_1 l0_1.length c0_1) := (blk_cell BK205.out 1).trans rfl; have hfz16_0 := blk_frozen BK205.out 0; have hfz16_1 := blk_frozen BK205.out 1) | ((with_reducible refine gate_callee (f := 19) rfl ?_); refine goesL_ (some 21) rfl rfl Try.func19 (by kernel_rfl) rfl #[.agg #[.int .i64 a0_0, .slice A0_1 l0_1.length c0_1], .int .i64 1048576] rfl (by (try simp only [List.map_toArray, List.map_cons, List.map_nil]); first | done | rfl | (simp only [List.length_drop, List.length_take]; rfl)) ?_; (with_reducible refine (laws_szRing.calls a0_0 _ _ l0_1 1048576 t207 _ ?side1 ?side2 A4.out).mono ?_); (case side1 => repeat (first | exact (Kd.C_below HR0_1.out HB.out) | (with_reducible refine Kd.C_alloc ?_ _) | (with_reducible refine Kd.C_drewN ?_ _) | (with_reducible refine Kd.C_drew ?_))); (case side2 => exact HC0_1.out); rintro e w17 ⟨rfl, hb⟩; refine ⟨_, rfl, ?_⟩; have n0_ := Aside0.mk (blk_below (pk BK205.out) hb); have n1_ := Aside0.mk (blk_below (pk BK206.out) hb); have n2_ := Aside0.mk (below_step (bks HB.out) hb); clear BK205; clear BK206; clear HB; have BK205 := n0_; have BK206 := n1_; have HB := n2_; clear n0_ n1_ n2_; (try clear hb); (try clear hb2); (try clear hk); (try clear hi); have hcz18_0 : w17.cell? ⟨gb206, 0, none⟩ = some (.int .i64 a1_0) := (blk_cell BK206.out 0).trans rfl; have hcz18_1 : w17.cell? ⟨gb206, 1, none⟩ = some (.slice A1_1 l1_1.length c1_1) := (blk_cell BK206.out 1).trans rfl; have hfz18_0 := blk_frozen BK206.out 0; have hfz18_1 := blk_frozen BK206.out 1) | ((with_reducible refine gate_callee (f := 19) rfl ?_); refine goesL_ (some 26) rfl rfl Try.func19 (by kernel_rfl) rfl #[.agg #[.int .i64 a1_0, .slice A1_1 l1_1.length c1_1], .int .i64 t207] rfl (by (try simp only [List.map_toArray, List.map_cons, List.map_nil]); first | done | rfl | (simp only [List.length_drop, List.length_take]; rfl)) ?_; (with_reducible refine (laws_szRing.calls a1_0 _ _ l1_1 t207 t208 _ ?side1 ?side2 A11.out).mono ?_); (case side1 => repeat (first | exact (Kd.C_below HR1_1.out HB.out) | (with_reducible refine Kd.C_alloc ?_ _) | (with_reducible refine Kd.C_drewN ?_ _) | (with_reducible refine Kd.C_drew ?_))); (case side2 => exact HC1_1.out); rintro e w19 ⟨rfl, hb⟩; refine ⟨_, rfl, ?_⟩; have n0_ := Aside0.mk (blk_below (pk BK205.out) hb); have n1_ := Aside0.mk (blk_below (pk BK206.out) hb); have n2_ := Aside0.mk (below_step (bks HB.out) hb); clear BK205; clear BK206; clear HB; have BK205 := n0_; have BK206 := n1_; have HB := n2_; clear n0_ n1_ n2_; (try clear hb); (try clear hb2); (try clear hk); (try clear hi)))
      go_ret
      exact ⟨by first | rfl | (simp [errW_none, errW_some] <;> rfl) | (simp [*, errW_none, errW_some] <;> rfl), bks HB.out⟩
    · rw [if_neg c12] at H
      have c12b0 : decide (t208 < 0) = false := decide_eq_false c12
      clear c12
      replace H := Option.bind_eq_some_iff.mp H
      obtain ⟨⟨t209, t210⟩, A200, H⟩ := H
      try dsimp only at H
      have A20 := Aside0.mk A200
      clear A200
      replace H := Option.bind_eq_some_iff.mp H
      obtain ⟨⟨t213, t214⟩, A210, H⟩ := H
      try dsimp only at H
      have A21 := Aside0.mk A210
      clear A210
      replace H := Option.bind_eq_some_iff.mp H
      obtain ⟨⟨t217, t218, t221⟩, A220, H⟩ := H
      try dsimp only at H
      have A22 := Aside0.mk A220
      clear A220
      replace H := Option.bind_eq_some_iff.mp H
      obtain ⟨⟨t223, t224⟩, A230, H⟩ := H
      try dsimp only at H
      have A23 := Aside0.mk A230
      clear A230
      replace H := Option.bind_eq_some_iff.mp H
      obtain ⟨⟨t228, t229⟩, A240, H⟩ := H
      try dsimp only at H
      have A24 := Aside0.mk A240
      clear A240
      replace H := Option.bind_eq_some_iff.mp H
      obtain ⟨⟨t233, t234, t237⟩, A250, H⟩ := H
      try dsimp only at H
      have A25 := Aside0.mk A250
      clear A250
      replace H := Option.bind_eq_some_iff.mp H
      obtain ⟨t239, A260, H⟩ := H
      try dsimp only at H
      have A26 := Aside0.mk A260
      clear A260
      by_cases c27 : t239 = true
      rotate_left
      · replace c27 := Bool.eq_false_iff.mpr c27
        subst c27
        have H1 : (none) = some r := by rw [if_neg (show ¬ (false = true) by decide)] at H; exact H
        clear H
        have H := H1
        clear H1
        exact absurd H (by simp)
      subst c27
      have H1 : (if t237 = t221 then ((laws_toRing.f k a0_0 l0_1).bind fun bt240 => ((laws_eqRing.f k t223 t224 bt240.1 bt240.2).bind fun t244 => (if t244 = true then ((laws_toRing.f k a1_0 l1_1).bind fun bt245 => ((laws_eqRing.f k t228 t229 bt245.1 bt245.2).bind fun t249 => (if t249 = true then ((laws_markRing.f k t223 t224 1).bind fun bt250 => ((laws_markRing.f k t228 t229 bt250.1).bind fun bt252 => (if bt252.1 < 0 then (none) else ((laws_eqRing.f k t233 t234 t217 t218).bind fun t254 => (if t254 = true then ((laws_markRing.f k t233 t234 1).bind fun bt255 => ((laws_heldRing.f k t233 bt255.2 1).bind fun t257 => (if t257 < 0 then (none) else (if t257 = bt255.1 then ((laws_toRing.f k a0_0 l0_1).bind fun bt258 => ((laws_toRing.f k a1_0 l1_1).bind fun bt262 => ((impl_AddRings.f k bt258.1 bt258.2 bt262.1 bt262.2 a2).bind fun bt266 => ((laws_eqRing.f k bt266.1 bt266.2.1 t217 t218).bind fun t272 => (if t272 = true then (if bt266.2.2 = t221 then ((laws_heldRing.f k t233 bt255.2 1).bind fun t273 => (if t273 < 0 then (none) else (if t273 = bt255.1 then (some true) else (none)))) else (none)) else (none)))))) else (none))))) else (none)))))) else (none)))) else (none)))) else (none)) = some r := by rw [if_pos rfl] at H; exact H
      clear H
      have H := H1
      clear H1
      by_cases c28 : t237 = t221
      rotate_left
      · rw [if_neg c28] at H; exact absurd H (by simp)
      rw [if_pos c28] at H
      have c28b0 : (t237 == t221) = true := beq_iff_eq.mpr c28
      have c28b1 : (t237 != t221) = false := bne_eq_false_iff_eq.mpr c28
      clear c28
      replace H := Option.bind_eq_some_iff.mp H
      obtain ⟨⟨t240, t241⟩, A290, H⟩ := H
      try dsimp only at H
      have A29 := Aside0.mk A290
      clear A290
      replace H := Option.bind_eq_some_iff.mp H
      obtain ⟨t244, A300, H⟩ := H
      try dsimp only at H
      have A30 := Aside0.mk A300
      clear A300
      by_cases c31 : t244 = true
      rotate_left
      · replace c31 := Bool.eq_false_iff.mpr c31
        subst c31
        have H1 : (none) = some r := by rw [if_neg (show ¬ (false = true) by decide)] at H; exact H
        clear H
        have H := H1
        clear H1
        exact absurd H (by simp)
      subst c31
      have H1 : ((laws_toRing.f k a1_0 l1_1).bind fun bt245 => ((laws_eqRing.f k t228 t229 bt245.1 bt245.2).bind fun t249 => (if t249 = true then ((laws_markRing.f k t223 t224 1).bind fun bt250 => ((laws_markRing.f k t228 t229 bt250.1).bind fun bt252 => (if bt252.1 < 0 then (none) else ((laws_eqRing.f k t233 t234 t217 t218).bind fun t254 => (if t254 = true then ((laws_markRing.f k t233 t234 1).bind fun bt255 => ((laws_heldRing.f k t233 bt255.2 1).bind fun t257 => (if t257 < 0 then (none) else (if t257 = bt255.1 then ((laws_toRing.f k a0_0 l0_1).bind fun bt258 => ((laws_toRing.f k a1_0 l1_1).bind fun bt262 => ((impl_AddRings.f k bt258.1 bt258.2 bt262.1 bt262.2 a2).bind fun bt266 => ((laws_eqRing.f k bt266.1 bt266.2.1 t217 t218).bind fun t272 => (if t272 = true then (if bt266.2.2 = t221 then ((laws_heldRing.f k t233 bt255.2 1).bind fun t273 => (if t273 < 0 then (none) else (if t273 = bt255.1 then (some true) else (none)))) else (none)) else (none)))))) else (none))))) else (none)))))) else (none)))) = some r := by rw [if_pos rfl] at H; exact H
      clear H
      have H := H1
      clear H1
      replace H := Option.bind_eq_some_iff.mp H
      obtain ⟨⟨t245, t246⟩, A320, H⟩ := H
      try dsimp only at H
      have A32 := Aside0.mk A320
      clear A320
      replace H := Option.bind_eq_some_iff.mp H
      obtain ⟨t249, A330, H⟩ := H
      try dsimp only at H
      have A33 := Aside0.mk A330
      clear A330
      by_cases c34 : t249 = true
      rotate_left
      · replace c34 := Bool.eq_false_iff.mpr c34
        subst c34
        have H1 : (none) = some r := by rw [if_neg (show ¬ (false = true) by decide)] at H; exact H
        clear H
        have H := H1
        clear H1
        exact absurd H (by simp)
      subst c34
      have H1 : ((laws_markRing.f k t223 t224 1).bind fun bt250 => ((laws_markRing.f k t228 t229 bt250.1).bind fun bt252 => (if bt252.1 < 0 then (none) else ((laws_eqRing.f k t233 t234 t217 t218).bind fun t254 => (if t254 = true then ((laws_markRing.f k t233 t234 1).bind fun bt255 => ((laws_heldRing.f k t233 bt255.2 1).bind fun t257 => (if t257 < 0 then (none) else (if t257 = bt255.1 then ((laws_toRing.f k a0_0 l0_1).bind fun bt258 => ((laws_toRing.f k a1_0 l1_1).bind fun bt262 => ((impl_AddRings.f k bt258.1 bt258.2 bt262.1 bt262.2 a2).bind fun bt266 => ((laws_eqRing.f k bt266.1 bt266.2.1 t217 t218).bind fun t272 => (if t272 = true then (if bt266.2.2 = t221 then ((laws_heldRing.f k t233 bt255.2 1).bind fun t273 => (if t273 < 0 then (none) else (if t273 = bt255.1 then (some true) else (none)))) else (none)) else (none)))))) else (none))))) else (none)))))) = some r := by rw [if_pos rfl] at H; exact H
      clear H
      have H := H1
      clear H1
      replace H := Option.bind_eq_some_iff.mp H
      obtain ⟨⟨t250, t251⟩, A350, H⟩ := H
      try dsimp only at H
      have A35 := Aside0.mk A350
      clear A350
      replace H := Option.bind_eq_some_iff.mp H
      obtain ⟨⟨t252, t253⟩, A360, H⟩ := H
      try dsimp only at H
      have A36 := Aside0.mk A360
      clear A360
      by_cases c37 : t252 < 0
      · rw [if_pos c37] at H; exact absurd H (by simp)
      rw [if_neg c37] at H
      have c37b0 : decide (t252 < 0) = false := decide_eq_false c37
      clear c37
      replace H := Option.bind_eq_some_iff.mp H
      obtain ⟨t254, A380, H⟩ := H
      try dsimp only at H
      have A38 := Aside0.mk A380
      clear A380
      by_cases c39 : t254 = true
      rotate_left
      · replace c39 := Bool.eq_false_iff.mpr c39
        subst c39
        have H1 : (none) = some r := by rw [if_neg (show ¬ (false = true) by decide)] at H; exact H
        clear H
        have H := H1
        clear H1
        exact absurd H (by simp)
      subst c39
      have H1 : ((laws_markRing.f k t233 t234 1).bind fun bt255 => ((laws_heldRing.f k t233 bt255.2 1).bind fun t257 => (if t257 < 0 then (none) else (if t257 = bt255.1 then ((laws_toRing.f k a0_0 l0_1).bind fun bt258 => ((laws_toRing.f k a1_0 l1_1).bind fun bt262 => ((impl_AddRings.f k bt258.1 bt258.2 bt262.1 bt262.2 a2).bind fun bt266 => ((laws_eqRing.f k bt266.1 bt266.2.1 t217 t218).bind fun t272 => (if t272 = true then (if bt266.2.2 = t221 then ((laws_heldRing.f k t233 bt255.2 1).bind fun t273 => (if t273 < 0 then (none) else (if t273 = bt255.1 then (some true) else (none)))) else (none)) else (none)))))) else (none))))) = some r := by rw [if_pos rfl] at H; exact H
      clear H
      have H := H1
      clear H1
      replace H := Option.bind_eq_some_iff.mp H
      obtain ⟨⟨t255, t256⟩, A400, H⟩ := H
      try dsimp only at H
      have A40 := Aside0.mk A400
      clear A400
      replace H := Option.bind_eq_some_iff.mp H
      obtain ⟨t257, A410, H⟩ := H
      try dsimp only at H
      have A41 := Aside0.mk A410
      clear A410
      by_cases c42 : t257 < 0
      · rw [if_pos c42] at H; exact absurd H (by simp)
      rw [if_neg c42] at H
      have c42b0 : decide (t257 < 0) = false := decide_eq_false c42
      clear c42
      by_cases c43 : t257 = t255
      rotate_left
      · rw [if_neg c43] at H; exact absurd H (by simp)
      rw [if_pos c43] at H
      have c43b0 : (t257 == t255) = true := beq_iff_eq.mpr c43
      have c43b1 : (t257 != t255) = false := bne_eq_false_iff_eq.mpr c43
      clear c43
      replace H := Option.bind_eq_some_iff.mp H
      obtain ⟨⟨t258, t259⟩, A440, H⟩ := H
      try dsimp only at H
      have A44 := Aside0.mk A440
      clear A440
      replace H := Option.bind_eq_some_iff.mp H
      obtain ⟨⟨t262, t263⟩, A450, H⟩ := H
      try dsimp only at H
      have A45 := Aside0.mk A450
      clear A450
      replace H := Option.bind_eq_some_iff.mp H
      obtain ⟨⟨t266, t267, t270⟩, A460, H⟩ := H
      try dsimp only at H
      have A46 := Aside0.mk A460
      clear A460
      replace H := Option.bind_eq_some_iff.mp H
      obtain ⟨t272, A470, H⟩ := H
      try dsimp only at H
      have A47 := Aside0.mk A470
      clear A470
      by_cases c48 : t272 = true
      rotate_left
      · replace c48 := Bool.eq_false_iff.mpr c48
        subst c48
        have H1 : (none) = some r := by rw [if_neg (show ¬ (false = true) by decide)] at H; exact H
        clear H
        have H := H1
        clear H1
        exact absurd H (by simp)
      subst c48
      have H1 : (if t270 = t221 then ((laws_heldRing.f k t233 t256 1).bind fun t273 => (if t273 < 0 then (none) else (if t273 = t255 then (some true) else (none)))) else (none)) = some r := by rw [if_pos rfl] at H; exact H
      clear H
      have H := H1
      clear H1
      by_cases c49 : t270 = t221
      rotate_left
      · rw [if_neg c49] at H; exact absurd H (by simp)
      rw [if_pos c49] at H
      have c49b0 : (t270 == t221) = true := beq_iff_eq.mpr c49
      have c49b1 : (t270 != t221) = false := bne_eq_false_iff_eq.mpr c49
      clear c49
      replace H := Option.bind_eq_some_iff.mp H
      obtain ⟨t273, A500, H⟩ := H
      try dsimp only at H
      have A50 := Aside0.mk A500
      clear A500
      by_cases c51 : t273 < 0
      · rw [if_pos c51] at H; exact absurd H (by simp)
      rw [if_neg c51] at H
      have c51b0 : decide (t273 < 0) = false := decide_eq_false c51
      clear c51
      by_cases c52 : t273 = t255
      rotate_left
      · rw [if_neg c52] at H; exact absurd H (by simp)
      rw [if_pos c52] at H
      have c52b0 : (t273 == t255) = true := beq_iff_eq.mpr c52
      have c52b1 : (t273 != t255) = false := bne_eq_false_iff_eq.mpr c52
      clear c52
      obtain rfl := Option.some.inj H
      go_enter Try.func7, Try.ntmps7
      try go_wp2_with (first | ((with_reducible refine gate_dst (N := 3) rfl ?_); refine box_event ?hg (N := 3) ?hd (cs := #[.int .i64 a0_0, .slice A0_1 l0_1.length c0_1]) (t := 32) ?hr ?_; (case hd => rfl); (case hg => rfl); (case hr => first | (go_simp; done) | (go_simp; rfl)); intro gb205 hg w53 hbox hb; have n0_ := Aside0.mk (below_step (bk HB.out) hb); have n1_ := Aside0.mk (hbox); have n2_ := Aside0.mk ((by rw [hg]; exact (below_size (bk HB.out)) : w.heap.size ≤ gb205)); have n3_ := Aside0.mk ((by rw [hg]; exact (below_size (bk HB.out)) : w.heap.size ≤ gb205)); clear HB; have HB := n0_; have BK205 := n1_; have GW205 := n2_; have GE205 := n3_; clear n0_ n1_ n2_ n3_; clear hb hbox hg) | ((with_reducible refine gate_dst (N := 4) rfl ?_); refine box_event ?hg (N := 4) ?hd (cs := #[.int .i64 a1_0, .slice A1_1 l1_1.length c1_1]) (t := 32) ?hr ?_; (case hd => rfl); (case hg => rfl); (case hr => first | (go_simp; done) | (go_simp; rfl)); intro gb206 hg w54 hbox hb; have n0_ := Aside0.mk (blk_below (pk BK205.out) hb); have n1_ := Aside0.mk (below_step (bks HB.out) hb); have n2_ := Aside0.mk (hbox); have n3_ := Aside0.mk ((by rw [hg]; exact (below_size (bks HB.out)) : w.heap.size ≤ gb206)); have n4_ := Aside0.mk ((by rw [hg]; exact (below_size (bks HB.out)) : w.heap.size ≤ gb206)); have n5_ := Aside0.mk ((by rw [hg]; exact Nat.ne_of_lt (blk_lt (g := gb205) (o := .cells #[.int .i64 a0_0, .slice A0_1 l0_1.length c0_1] 32 (0, 0)) (pk BK205.out)) : gb205 ≠ gb206)); have n6_ := Aside0.mk ((by rw [hg]; exact Nat.ne_of_gt (blk_lt (g := gb205) (o := .cells #[.int .i64 a0_0, .slice A0_1 l0_1.length c0_1] 32 (0, 0)) (pk BK205.out)) : gb206 ≠ gb205)); clear BK205; clear HB; have BK205 := n0_; have HB := n1_; have BK206 := n2_; have GW206 := n3_; have GE206 := n4_; have NB205_206 := n5_; have NB206_205 := n6_; clear n0_ n1_ n2_ n3_ n4_ n5_ n6_; clear hb hbox hg; have hnb55 := NB205_206.out; have hnc55 := NB206_205.out; have hcz56_0 : w54.cell? ⟨gb205, 0, none⟩ = some (.int .i64 a0_0) := (blk_cell BK205.out 0).trans rfl; have hcz56_1 : w54.cell? ⟨gb205, 1, none⟩ = some (.slice A0_1 l0_1.length c0_1) := (blk_cell BK205.out 1).trans rfl; have hfz56_0 := blk_frozen BK205.out 0; have hfz56_1 := blk_frozen BK205.out 1) | ((with_reducible refine gate_callee (f := 19) rfl ?_); refine goesL_ (some 21) rfl rfl Try.func19 (by kernel_rfl) rfl #[.agg #[.int .i64 a0_0, .slice A0_1 l0_1.length c0_1], .int .i64 1048576] rfl (by (try simp only [List.map_toArray, List.map_cons, List.map_nil]); first | done | rfl | (simp only [List.length_drop, List.length_take]; rfl)) ?_; (with_reducible refine (laws_szRing.calls a0_0 _ _ l0_1 1048576 t207 _ ?side1 ?side2 A4.out).mono ?_); (case side1 => repeat (first | exact (Kd.C_below HR0_1.out HB.out) | (with_reducible refine Kd.C_alloc ?_ _) | (with_reducible refine Kd.C_drewN ?_ _) | (with_reducible refine Kd.C_drew ?_))); (case side2 => exact HC0_1.out); rintro e w57 ⟨rfl, hb⟩; refine ⟨_, rfl, ?_⟩; have n0_ := Aside0.mk (blk_below (pk BK205.out) hb); have n1_ := Aside0.mk (blk_below (pk BK206.out) hb); have n2_ := Aside0.mk (below_step (bks HB.out) hb); clear BK205; clear BK206; clear HB; have BK205 := n0_; have BK206 := n1_; have HB := n2_; clear n0_ n1_ n2_; (try clear hb); (try clear hb2); (try clear hk); (try clear hi); have hcz58_0 : w57.cell? ⟨gb206, 0, none⟩ = some (.int .i64 a1_0) := (blk_cell BK206.out 0).trans rfl; have hcz58_1 : w57.cell? ⟨gb206, 1, none⟩ = some (.slice A1_1 l1_1.length c1_1) := (blk_cell BK206.out 1).trans rfl; have hfz58_0 := blk_frozen BK206.out 0; have hfz58_1 := blk_frozen BK206.out 1) | ((with_reducible refine gate_callee (f := 19) rfl ?_); refine goesL_ (some 26) rfl rfl Try.func19 (by kernel_rfl) rfl #[.agg #[.int .i64 a1_0, .slice A1_1 l1_1.length c1_1], .int .i64 t207] rfl (by (try simp only [List.map_toArray, List.map_cons, List.map_nil]); first | done | rfl | (simp only [List.length_drop, List.length_take]; rfl)) ?_; (with_reducible refine (laws_szRing.calls a1_0 _ _ l1_1 t207 t208 _ ?side1 ?side2 A11.out).mono ?_); (case side1 => repeat (first | exact (Kd.C_below HR1_1.out HB.out) | (with_reducible refine Kd.C_alloc ?_ _) | (with_reducible refine Kd.C_drewN ?_ _) | (with_reducible refine Kd.C_drew ?_))); (case side2 => exact HC1_1.out); rintro e w59 ⟨rfl, hb⟩; refine ⟨_, rfl, ?_⟩; have n0_ := Aside0.mk (blk_below (pk BK205.out) hb); have n1_ := Aside0.mk (blk_below (pk BK206.out) hb); have n2_ := Aside0.mk (below_step (bks HB.out) hb); clear BK205; clear BK206; clear HB; have BK205 := n0_; have BK206 := n1_; have HB := n2_; clear n0_ n1_ n2_; (try clear hb); (try clear hb2); (try clear hk); (try clear hi)))
      have n0_ := Aside0.mk (blk_drew BK205.out)
      have n1_ := Aside0.mk (blk_drew BK206.out)
      have n2_ := Aside0.mk (below_drew1 HB.out)
      clear BK205 BK206 HB
      have BK205 := n0_
      have BK206 := n1_
      have HB := n2_
      clear n0_ n1_ n2_
      refine start_ (n := 12) (S := fun w' => w'.cell? ⟨gb205, 0, none⟩ = some (.int .i64 a0_0) ∧ w'.cell? ⟨gb205, 1, none⟩ = some (.slice A0_1 l0_1.length c0_1) ∧ w'.cell? ⟨gb206, 0, none⟩ = some (.int .i64 a1_0) ∧ w'.cell? ⟨gb206, 1, none⟩ = some (.slice A1_1 l1_1.length c1_1)) (ds := []) #[false, false, false, false, false, false, false, false, false, false, false, false] (by kernel_rfl) rfl rfl ⟨(blk_cell BK205.out 0).trans rfl, (blk_cell BK205.out 1).trans rfl, (blk_cell BK206.out 0).trans rfl, (blk_cell BK206.out 1).trans rfl⟩ (fun hHeld => ?_); refine with_tabW laws_FnExactAddRings.tab8 laws_FnExactAddRings.bits8 (fun HT_ HW_ => ?_)
      generalize w59.drew = w60 at BK205 BK206 HB hHeld ⊢
      refine pure_ (i := 4) (N := some 34) (v := ?_) (a' := ?_) #[false, false, false, false, true, false, false, false, false, false, false, false] rfl rfl (any_of HT_.out (by kernel_rfl)) (fun _ _ _ h => h) (Or.inl ⟨by rfl, ?_⟩) ?_ ?_
      rotate_left
      · intro w'
        go_simp
        with_reducible rfl
      rotate_left
      · simp only [Act.put, List.setIfInBounds_toArray, List.set_cons_zero, List.set_cons_succ, i64_w, i32_w]
        rfl
      refine take_ (i := 0) (N := some 30) (v := ?_) (a' := ?_) #[true, false, false, false, true, false, false, false, false, false, false, false] rfl rfl (take_ofW HT_.out HW_.out (by kernel_rfl)) (fun _ _ _ h => h) (Or.inl ⟨by rfl, ?_⟩) hHeld ?_ ?_
      rotate_left
      · rintro w' ⟨s0, s1, s2, s3⟩
        go_simp
        with_reducible rfl
      rotate_left
      · simp only [Act.put, List.setIfInBounds_toArray, List.set_cons_zero, List.set_cons_succ, i64_w, i32_w]
        rfl
      refine take_ (i := 2) (N := some 32) (v := ?_) (a' := ?_) #[true, false, true, false, true, false, false, false, false, false, false, false] rfl rfl (take_ofW HT_.out HW_.out (by kernel_rfl)) (fun _ _ _ h => h) (Or.inl ⟨by rfl, ?_⟩) hHeld ?_ ?_
      rotate_left
      · rintro w' ⟨s0, s1, s2, s3⟩
        go_simp
        with_reducible rfl
      rotate_left
      · simp only [Act.put, List.setIfInBounds_toArray, List.set_cons_zero, List.set_cons_succ, i64_w, i32_w]
        rfl
      refine join_ (σ := Value × Value × Value × Nat) 2 #[true, true, true, true, true, true, true, true, true, true, false, false] (fun s_ => [(31, .agg #[.int .i64 t209, s_.1]), (33, .agg #[.int .i64 t213, s_.2.1]), (35, .tuple #[.agg #[.int .i64 t217, s_.2.2.1], .int .i64 t221]), (8, .pointer (some ⟨s_.2.2.2, 0, none⟩)), (29, .tuple #[.agg #[.int .i64 t217, s_.2.2.1], .int .i64 t221]), (36, .agg #[.int .i64 t217, s_.2.2.1]), (37, .int .i64 t221)]) (fun s_ w' => (w'.cell? ⟨gb205, 0, none⟩ = some (.int .i64 a0_0) ∧ w'.cell? ⟨gb205, 1, none⟩ = some (.slice A0_1 l0_1.length c0_1) ∧ w'.cell? ⟨gb206, 0, none⟩ = some (.int .i64 a1_0) ∧ w'.cell? ⟨gb206, 1, none⟩ = some (.slice A1_1 l1_1.length c1_1)) ∧ (Kd.R (Kd.int .i64) 2 w' w.heap.size (fun k_ => some k_ ≠ (s_.2.1 : Value).ownBlock ∧ some k_ ≠ (s_.2.2.1 : Value).ownBlock) s_.1 t210) ∧ (Kd.R (Kd.int .i64) 2 w' w.heap.size (fun k_ => some k_ ≠ (s_.1 : Value).ownBlock ∧ some k_ ≠ (s_.2.2.1 : Value).ownBlock) s_.2.1 t214) ∧ (Kd.R (Kd.int .i64) 2 w' w.heap.size (fun k_ => some k_ ≠ (s_.1 : Value).ownBlock ∧ some k_ ≠ (s_.2.1 : Value).ownBlock) s_.2.2.1 t218) ∧ (w'.heap[gb205]? = some (.cells #[.int .i64 a0_0, .slice A0_1 l0_1.length c0_1] 32 (0, 0))) ∧ (w'.heap[gb206]? = some (.cells #[.int .i64 a1_0, .slice A1_1 l1_1.length c1_1] 32 (0, 0))) ∧ (w'.heap[s_.2.2.2]? = some (.cells #[.int .i64 0, .slice none 0 0] 24 (0, 0))) ∧ (w.heap.size ≤ s_.2.2.2) ∧ (w.heap.size ≤ s_.2.2.2) ∧ (gb205 ≠ s_.2.2.2) ∧ (s_.2.2.2 ≠ gb205) ∧ (gb206 ≠ s_.2.2.2) ∧ (s_.2.2.2 ≠ gb206) ∧ (Below w.heap.size w w')) ?_ ?_
      rotate_left
      · intro hCont
        refine two_ (i := 1) (j := 9) (Ni := some 31) (Nj := some 8) #[true, true, true, false, true, false, false, false, false, false, false, false] #[true, false, true, false, true, false, false, false, false, true, false, false] rfl rfl rfl rfl (two_of HT_.out (by kernel_rfl)) (by decide) (by decide) (fun K hK => ?_) (fun K hK => ?_)
        · skip
          refine goes_ Try.func21 (by kernel_rfl) rfl #[.agg #[.int .i64 a0_0, .slice A0_1 l0_1.length c0_1]] (by rfl) rfl rfl (by (try simp only [List.map_toArray, List.map_cons, List.map_nil]); first | done | rfl | (simp only [List.length_drop, List.length_take]; rfl)) ?_
          with_reducible refine (laws_toRing.calls k a0_0 _ _ l0_1 t209 t210 _ ?side1 ?side2 A20.out).mono ?_
          (case side1 => repeat (first | exact (Kd.C_below HR0_1.out HB.out) | (with_reducible refine Kd.C_alloc ?_ _) | (with_reducible refine Kd.C_drewN ?_ _) | (with_reducible refine Kd.C_drew ?_)))
          (case side2 => exact HC0_1.out)
          rintro e w61 ⟨v211, rfl, ho0, hb⟩
          refine ⟨_, rfl, ?_⟩
          have n0_ := Aside0.mk (Kd.R_lower ho0 (below_size (bks HB.out)))
          have n1_ := Aside0.mk (blk_below (pk BK205.out) hb)
          have n2_ := Aside0.mk (blk_below (pk BK206.out) hb)
          have n3_ := Aside0.mk (below_step (bks HB.out) hb)
          clear BK205 BK206 HB
          have HO212 := n0_
          have BK205 := n1_
          have BK206 := n2_
          have HB := n3_
          clear n0_ n1_ n2_ n3_
          (try clear hb)
          (try clear hb2)
          (try clear hk)
          (try clear hi)
          (try clear ho0)
          refine hK.out _ _ ⟨(blk_cell BK205.out 0).trans rfl, (blk_cell BK205.out 1).trans rfl, (blk_cell BK206.out 0).trans rfl, (blk_cell BK206.out 1).trans rfl⟩ (fun hHeld => ?_)
          clear hK K
          refine norm_ (a' := ?_) ?_ ?_
          rotate_left
          · show Act.put _ (some 31) _ = _
            simp only [Act.put, List.setIfInBounds_toArray, List.set_cons_zero, List.set_cons_succ, i64_w, i32_w]
            rfl
          refine two_ (i := 3) (j := 9) (Ni := some 33) (Nj := some 8) #[true, true, true, true, true, false, false, false, false, false, false, false] #[true, true, true, false, true, false, false, false, false, true, false, false] rfl rfl rfl rfl (two_of HT_.out (by kernel_rfl)) (by decide) (by decide) (fun K hK => ?_) (fun K hK => ?_)
          · skip
            refine goes_ Try.func21 (by kernel_rfl) rfl #[.agg #[.int .i64 a1_0, .slice A1_1 l1_1.length c1_1]] (by rfl) rfl rfl (by (try simp only [List.map_toArray, List.map_cons, List.map_nil]); first | done | rfl | (simp only [List.length_drop, List.length_take]; rfl)) ?_
            with_reducible refine (laws_toRing.calls k a1_0 _ _ l1_1 t213 t214 _ ?side1 ?side2 A21.out).mono ?_
            (case side1 => repeat (first | exact (Kd.C_below HR1_1.out HB.out) | (with_reducible refine Kd.C_alloc ?_ _) | (with_reducible refine Kd.C_drewN ?_ _) | (with_reducible refine Kd.C_drew ?_)))
            (case side2 => exact HC1_1.out)
            rintro e w62 ⟨v215, rfl, ho0, hb⟩
            refine ⟨_, rfl, ?_⟩
            have n0_ := Aside0.mk (Kd.R_elder' (rk HO212.out) (Kd.R_base ho0) hb)
            have n1_ := Aside0.mk (Kd.R_lower (Kd.R_new' ho0 (Kd.R_lt (rk HO212.out))) (below_size (bks HB.out)))
            have n2_ := Aside0.mk (blk_below (pk BK205.out) hb)
            have n3_ := Aside0.mk (blk_below (pk BK206.out) hb)
            have n4_ := Aside0.mk (below_step (bks HB.out) hb)
            clear HO212 BK205 BK206 HB
            have HO212 := n0_
            have HO216 := n1_
            have BK205 := n2_
            have BK206 := n3_
            have HB := n4_
            clear n0_ n1_ n2_ n3_ n4_
            (try clear hb)
            (try clear hb2)
            (try clear hk)
            (try clear hi)
            (try clear ho0)
            obtain ⟨Ao63, co63, eo63⟩ := Kd.R_slice HO212.out
            (first | subst eo63 | (injection eo63 with f1_ f2_ f3_; have f4_ := f1_.symm; have f5_ := f3_.symm; clear f1_ f2_ f3_; subst f4_; subst f5_))
            obtain ⟨Ao64, co64, eo64⟩ := Kd.R_slice HO216.out
            (first | subst eo64 | (injection eo64 with f1_ f2_ f3_; have f4_ := f1_.symm; have f5_ := f3_.symm; clear f1_ f2_ f3_; subst f4_; subst f5_))
            refine hK.out _ _ ⟨(blk_cell BK205.out 0).trans rfl, (blk_cell BK205.out 1).trans rfl, (blk_cell BK206.out 0).trans rfl, (blk_cell BK206.out 1).trans rfl⟩ (fun hHeld => ?_)
            clear hK K
            refine norm_ (a' := ?_) ?_ ?_
            rotate_left
            · show Act.put _ (some 33) _ = _
              simp only [Act.put, List.setIfInBounds_toArray, List.set_cons_zero, List.set_cons_succ, i64_w, i32_w]
              rfl
            refine two_ (i := 5) (j := 9) (Ni := some 35) (Nj := some 8) #[true, true, true, true, true, true, false, false, false, false, false, false] #[true, true, true, true, true, false, false, false, false, true, false, false] rfl rfl rfl rfl (two_of HT_.out (by kernel_rfl)) (by decide) (by decide) (fun K hK => ?_) (fun K hK => ?_)
            · skip
              refine goes_ Try.func25 (by kernel_rfl) rfl #[.agg #[.int .i64 t209, .slice Ao63 t210.length co63], .agg #[.int .i64 t213, .slice Ao64 t214.length co64], .int .i64 a2] (by rfl) rfl rfl (by (try simp only [List.map_toArray, List.map_cons, List.map_nil]); first | done | rfl | (simp only [List.length_drop, List.length_take]; rfl)) ?_
              with_reducible refine (spec_AddRings.calls k t209 _ _ t210 t213 _ _ t214 a2 t217 t218 t221 _ ?side1 ?side2 ?side3 ?side4 A22.out).mono ?_
              (case side1 => repeat (first | exact (Kd.R_reads' HO212.out).2.2 | (with_reducible refine Kd.C_alloc ?_ _) | (with_reducible refine Kd.C_drewN ?_ _) | (with_reducible refine Kd.C_drew ?_)))
              (case side2 => exact (Kd.R_reads' HO212.out).2.1)
              (case side3 => repeat (first | exact (Kd.R_reads' HO216.out).2.2 | (with_reducible refine Kd.C_alloc ?_ _) | (with_reducible refine Kd.C_drewN ?_ _) | (with_reducible refine Kd.C_drew ?_)))
              (case side4 => exact (Kd.R_reads' HO216.out).2.1)
              rintro e w65 ⟨v219, rfl, ho0, hb⟩
              refine ⟨_, rfl, ?_⟩
              have n0_ := Aside0.mk (Kd.R_elder' (rk HO212.out) (Kd.R_base ho0) hb)
              have n1_ := Aside0.mk (Kd.R_elder' (rk HO216.out) (Kd.R_base ho0) hb)
              have n2_ := Aside0.mk (Kd.R_lower (Kd.R_new' (Kd.R_new' ho0 (Kd.R_lt (rk HO212.out))) (Kd.R_lt (rk HO216.out))) (below_size (bks HB.out)))
              have n3_ := Aside0.mk (blk_below (pk BK205.out) hb)
              have n4_ := Aside0.mk (blk_below (pk BK206.out) hb)
              have n5_ := Aside0.mk (below_step (bks HB.out) hb)
              clear HO212 HO216 BK205 BK206 HB
              have HO212 := n0_
              have HO216 := n1_
              have HO220 := n2_
              have BK205 := n3_
              have BK206 := n4_
              have HB := n5_
              clear n0_ n1_ n2_ n3_ n4_ n5_
              (try clear hb)
              (try clear hb2)
              (try clear hk)
              (try clear hi)
              (try clear ho0)
              refine hK.out _ _ ⟨(blk_cell BK205.out 0).trans rfl, (blk_cell BK205.out 1).trans rfl, (blk_cell BK206.out 0).trans rfl, (blk_cell BK206.out 1).trans rfl⟩ (fun hHeld => ?_)
              clear hK K
              refine norm_ (a' := ?_) ?_ ?_
              rotate_left
              · show Act.put _ (some 35) _ = _
                simp only [Act.put, List.setIfInBounds_toArray, List.set_cons_zero, List.set_cons_succ, i64_w, i32_w]
                rfl
              refine pure_ (i := 6) (N := some 29) (v := ?_) (a' := ?_) #[true, true, true, true, true, true, true, false, false, false, false, false] rfl rfl (any_of HT_.out (by kernel_rfl)) (fun _ _ _ h => h) (Or.inl ⟨by rfl, ?_⟩) ?_ ?_
              rotate_left
              · intro w'
                go_simp
                with_reducible rfl
              rotate_left
              · simp only [Act.put, List.setIfInBounds_toArray, List.set_cons_zero, List.set_cons_succ, i64_w, i32_w]
                rfl
              refine pure_ (i := 7) (N := some 36) (v := ?_) (a' := ?_) #[true, true, true, true, true, true, true, true, false, false, false, false] rfl rfl (any_of HT_.out (by kernel_rfl)) (fun _ _ _ h => h) (Or.inl ⟨by rfl, ?_⟩) ?_ ?_
              rotate_left
              · intro w'
                go_simp
                with_reducible rfl
              rotate_left
              · simp only [Act.put, List.setIfInBounds_toArray, List.set_cons_zero, List.set_cons_succ, i64_w, i32_w]
                rfl
              refine pure_ (i := 8) (N := some 37) (v := ?_) (a' := ?_) #[true, true, true, true, true, true, true, true, true, false, false, false] rfl rfl (any_of HT_.out (by kernel_rfl)) (fun _ _ _ h => h) (Or.inl ⟨by rfl, ?_⟩) ?_ ?_
              rotate_left
              · intro w'
                go_simp
                with_reducible rfl
              rotate_left
              · simp only [Act.put, List.setIfInBounds_toArray, List.set_cons_zero, List.set_cons_succ, i64_w, i32_w]
                rfl
              refine one_ (i := 9) (N := some 8) #[true, true, true, true, true, true, true, true, true, true, false, false] rfl rfl (one_of HT_.out (by kernel_rfl)) (by decide) (fun K hK => ?_)
              refine box_step ?hg (N := 8) ?hd (cs := #[.int .i64 0, .slice none 0 0]) (t := 24) ?hr ?_; (case hd => rfl); (case hg => rfl); (case hr => first | (go_simp; done) | (go_simp; rfl))
              intro gb222 hg w66 hbox hb
              have n0_ := Aside0.mk (Kd.R_below (rk HO212.out) hb)
              have n1_ := Aside0.mk (Kd.R_below (rk HO216.out) hb)
              have n2_ := Aside0.mk (Kd.R_below (rk HO220.out) hb)
              have n3_ := Aside0.mk (blk_below (pk BK205.out) hb)
              have n4_ := Aside0.mk (blk_below (pk BK206.out) hb)
              have n5_ := Aside0.mk (below_step (bks HB.out) hb)
              have n6_ := Aside0.mk (hbox)
              have n7_ := Aside0.mk ((by rw [hg]; exact (below_size (bks HB.out)) : w.heap.size ≤ gb222))
              have n8_ := Aside0.mk ((by rw [hg]; exact (below_size (bks HB.out)) : w.heap.size ≤ gb222))
              have n9_ := Aside0.mk ((by rw [hg]; exact Nat.ne_of_lt (blk_lt (g := gb205) (o := .cells #[.int .i64 a0_0, .slice A0_1 l0_1.length c0_1] 32 (0, 0)) (pk BK205.out)) : gb205 ≠ gb222))
              have n10_ := Aside0.mk ((by rw [hg]; exact Nat.ne_of_gt (blk_lt (g := gb205) (o := .cells #[.int .i64 a0_0, .slice A0_1 l0_1.length c0_1] 32 (0, 0)) (pk BK205.out)) : gb222 ≠ gb205))
              have n11_ := Aside0.mk ((by rw [hg]; exact Nat.ne_of_lt (blk_lt (g := gb206) (o := .cells #[.int .i64 a1_0, .slice A1_1 l1_1.length c1_1] 32 (0, 0)) (pk BK206.out)) : gb206 ≠ gb222))
              have n12_ := Aside0.mk ((by rw [hg]; exact Nat.ne_of_gt (blk_lt (g := gb206) (o := .cells #[.int .i64 a1_0, .slice A1_1 l1_1.length c1_1] 32 (0, 0)) (pk BK206.out)) : gb222 ≠ gb206))
              clear HO212 HO216 HO220 BK205 BK206 HB
              have HO212 := n0_
              have HO216 := n1_
              have HO220 := n2_
              have BK205 := n3_
              have BK206 := n4_
              have HB := n5_
              have BK222 := n6_
              have GW222 := n7_
              have GE222 := n8_
              have NB205_222 := n9_
              have NB222_205 := n10_
              have NB206_222 := n11_
              have NB222_206 := n12_
              clear n0_ n1_ n2_ n3_ n4_ n5_ n6_ n7_ n8_ n9_ n10_ n11_ n12_ hb hbox hg
              refine hK.out _ _ ⟨(blk_cell BK205.out 0).trans rfl, (blk_cell BK205.out 1).trans rfl, (blk_cell BK206.out 0).trans rfl, (blk_cell BK206.out 1).trans rfl⟩ (fun hHeld => ?_)
              clear hK K
              refine norm_ (a' := ?_) ?_ ?_
              rotate_left
              · show Act.put _ (some 8) _ = _
                simp only [Act.put, List.setIfInBounds_toArray, List.set_cons_zero, List.set_cons_succ, i64_w, i32_w]
                rfl
              exact norm_ (by simp only [putAll, Act.put, List.setIfInBounds_toArray, List.set_cons_zero, List.set_cons_succ]) (hCont (.slice Ao63 t210.length co63, .slice Ao64 t214.length co64, v219, gb222) _ ⟨hHeld, (by (with_reducible repeat (first | apply Kd.R_alloc | apply Kd.R_drewN | apply Kd.R_drew)); exact Kd.R_mono HO212.out (fun _ hk => ⟨hk.1.2, hk.2⟩)), (by (with_reducible repeat (first | apply Kd.R_alloc | apply Kd.R_drewN | apply Kd.R_drew)); exact Kd.R_mono HO216.out (fun _ hk => ⟨hk.1.2, hk.2⟩)), (by (with_reducible repeat (first | apply Kd.R_alloc | apply Kd.R_drewN | apply Kd.R_drew)); exact Kd.R_mono HO220.out (fun _ hk => ⟨hk.1.2, hk.2⟩)), (pk BK205.out), (pk BK206.out), (pk BK222.out), GW222.out, GE222.out, NB205_222.out, NB222_205.out, NB206_222.out, NB222_206.out, (bks HB.out)⟩)
            · skip
              refine box_step ?hg (N := 8) ?hd (cs := #[.int .i64 0, .slice none 0 0]) (t := 24) ?hr ?_; (case hd => rfl); (case hg => rfl); (case hr => first | (go_simp; done) | (go_simp; rfl))
              intro gb222 hg w63 hbox hb
              have n0_ := Aside0.mk (Kd.R_below (rk HO212.out) hb)
              have n1_ := Aside0.mk (Kd.R_below (rk HO216.out) hb)
              have n2_ := Aside0.mk (blk_below (pk BK205.out) hb)
              have n3_ := Aside0.mk (blk_below (pk BK206.out) hb)
              have n4_ := Aside0.mk (below_step (bks HB.out) hb)
              have n5_ := Aside0.mk (hbox)
              have n6_ := Aside0.mk ((by rw [hg]; exact (below_size (bks HB.out)) : w.heap.size ≤ gb222))
              have n7_ := Aside0.mk ((by rw [hg]; exact (below_size (bks HB.out)) : w.heap.size ≤ gb222))
              have n8_ := Aside0.mk ((by rw [hg]; exact Nat.ne_of_lt (blk_lt (g := gb205) (o := .cells #[.int .i64 a0_0, .slice A0_1 l0_1.length c0_1] 32 (0, 0)) (pk BK205.out)) : gb205 ≠ gb222))
              have n9_ := Aside0.mk ((by rw [hg]; exact Nat.ne_of_gt (blk_lt (g := gb205) (o := .cells #[.int .i64 a0_0, .slice A0_1 l0_1.length c0_1] 32 (0, 0)) (pk BK205.out)) : gb222 ≠ gb205))
              have n10_ := Aside0.mk ((by rw [hg]; exact Nat.ne_of_lt (blk_lt (g := gb206) (o := .cells #[.int .i64 a1_0, .slice A1_1 l1_1.length c1_1] 32 (0, 0)) (pk BK206.out)) : gb206 ≠ gb222))
              have n11_ := Aside0.mk ((by rw [hg]; exact Nat.ne_of_gt (blk_lt (g := gb206) (o := .cells #[.int .i64 a1_0, .slice A1_1 l1_1.length c1_1] 32 (0, 0)) (pk BK206.out)) : gb222 ≠ gb206))
              clear HO212 HO216 BK205 BK206 HB
              have HO212 := n0_
              have HO216 := n1_
              have BK205 := n2_
              have BK206 := n3_
              have HB := n4_
              have BK222 := n5_
              have GW222 := n6_
              have GE222 := n7_
              have NB205_222 := n8_
              have NB222_205 := n9_
              have NB206_222 := n10_
              have NB222_206 := n11_
              clear n0_ n1_ n2_ n3_ n4_ n5_ n6_ n7_ n8_ n9_ n10_ n11_ hb hbox hg
              obtain ⟨Ao64, co64, eo64⟩ := Kd.R_slice HO212.out
              (first | subst eo64 | (injection eo64 with f1_ f2_ f3_; have f4_ := f1_.symm; have f5_ := f3_.symm; clear f1_ f2_ f3_; subst f4_; subst f5_))
              obtain ⟨Ao65, co65, eo65⟩ := Kd.R_slice HO216.out
              (first | subst eo65 | (injection eo65 with f1_ f2_ f3_; have f4_ := f1_.symm; have f5_ := f3_.symm; clear f1_ f2_ f3_; subst f4_; subst f5_))
              refine hK.out _ _ ⟨(blk_cell BK205.out 0).trans rfl, (blk_cell BK205.out 1).trans rfl, (blk_cell BK206.out 0).trans rfl, (blk_cell BK206.out 1).trans rfl⟩ (fun hHeld => ?_)
              clear hK K
              refine norm_ (a' := ?_) ?_ ?_
              rotate_left
              · show Act.put _ (some 8) _ = _
                simp only [Act.put, List.setIfInBounds_toArray, List.set_cons_zero, List.set_cons_succ, i64_w, i32_w]
                rfl
              refine one_ (i := 5) (N := some 35) #[true, true, true, true, true, true, false, false, false, true, false, false] rfl rfl (one_of HT_.out (by kernel_rfl)) (by decide) (fun K hK => ?_)
              refine goes_ Try.func25 (by kernel_rfl) rfl #[.agg #[.int .i64 t209, .slice Ao64 t210.length co64], .agg #[.int .i64 t213, .slice Ao65 t214.length co65], .int .i64 a2] (by rfl) rfl rfl (by (try simp only [List.map_toArray, List.map_cons, List.map_nil]); first | done | rfl | (simp only [List.length_drop, List.length_take]; rfl)) ?_
              with_reducible refine (spec_AddRings.calls k t209 _ _ t210 t213 _ _ t214 a2 t217 t218 t221 _ ?side1 ?side2 ?side3 ?side4 A22.out).mono ?_
              (case side1 => repeat (first | exact (Kd.R_reads' HO212.out).2.2 | (with_reducible refine Kd.C_alloc ?_ _) | (with_reducible refine Kd.C_drewN ?_ _) | (with_reducible refine Kd.C_drew ?_)))
              (case side2 => exact (Kd.R_reads' HO212.out).2.1)
              (case side3 => repeat (first | exact (Kd.R_reads' HO216.out).2.2 | (with_reducible refine Kd.C_alloc ?_ _) | (with_reducible refine Kd.C_drewN ?_ _) | (with_reducible refine Kd.C_drew ?_)))
              (case side4 => exact (Kd.R_reads' HO216.out).2.1)
              rintro e w66 ⟨v219, rfl, ho0, hb⟩
              refine ⟨_, rfl, ?_⟩
              have n0_ := Aside0.mk (Kd.R_elder' (rk HO212.out) (Kd.R_base ho0) hb)
              have n1_ := Aside0.mk (Kd.R_elder' (rk HO216.out) (Kd.R_base ho0) hb)
              have n2_ := Aside0.mk (Kd.R_lower (Kd.R_new' (Kd.R_new' ho0 (Kd.R_lt (rk HO212.out))) (Kd.R_lt (rk HO216.out))) (below_size (bks HB.out)))
              have n3_ := Aside0.mk (blk_below (pk BK205.out) hb)
              have n4_ := Aside0.mk (blk_below (pk BK206.out) hb)
              have n5_ := Aside0.mk (blk_below (pk BK222.out) hb)
              have n6_ := Aside0.mk (below_step (bks HB.out) hb)
              clear HO212 HO216 BK205 BK206 BK222 HB
              have HO212 := n0_
              have HO216 := n1_
              have HO220 := n2_
              have BK205 := n3_
              have BK206 := n4_
              have BK222 := n5_
              have HB := n6_
              clear n0_ n1_ n2_ n3_ n4_ n5_ n6_
              (try clear hb)
              (try clear hb2)
              (try clear hk)
              (try clear hi)
              (try clear ho0)
              refine hK.out _ _ ⟨(blk_cell BK205.out 0).trans rfl, (blk_cell BK205.out 1).trans rfl, (blk_cell BK206.out 0).trans rfl, (blk_cell BK206.out 1).trans rfl⟩ (fun hHeld => ?_)
              clear hK K
              refine norm_ (a' := ?_) ?_ ?_
              rotate_left
              · show Act.put _ (some 35) _ = _
                simp only [Act.put, List.setIfInBounds_toArray, List.set_cons_zero, List.set_cons_succ, i64_w, i32_w]
                rfl
              refine pure_ (i := 6) (N := some 29) (v := ?_) (a' := ?_) #[true, true, true, true, true, true, true, false, false, true, false, false] rfl rfl (any_of HT_.out (by kernel_rfl)) (fun _ _ _ h => h) (Or.inl ⟨by rfl, ?_⟩) ?_ ?_
              rotate_left
              · intro w'
                go_simp
                with_reducible rfl
              rotate_left
              · simp only [Act.put, List.setIfInBounds_toArray, List.set_cons_zero, List.set_cons_succ, i64_w, i32_w]
                rfl
              refine pure_ (i := 7) (N := some 36) (v := ?_) (a' := ?_) #[true, true, true, true, true, true, true, true, false, true, false, false] rfl rfl (any_of HT_.out (by kernel_rfl)) (fun _ _ _ h => h) (Or.inl ⟨by rfl, ?_⟩) ?_ ?_
              rotate_left
              · intro w'
                go_simp
                with_reducible rfl
              rotate_left
              · simp only [Act.put, List.setIfInBounds_toArray, List.set_cons_zero, List.set_cons_succ, i64_w, i32_w]
                rfl
              refine pure_ (i := 8) (N := some 37) (v := ?_) (a' := ?_) #[true, true, true, true, true, true, true, true, true, true, false, false] rfl rfl (any_of HT_.out (by kernel_rfl)) (fun _ _ _ h => h) (Or.inl ⟨by rfl, ?_⟩) ?_ ?_
              rotate_left
              · intro w'
                go_simp
                with_reducible rfl
              rotate_left
              · simp only [Act.put, List.setIfInBounds_toArray, List.set_cons_zero, List.set_cons_succ, i64_w, i32_w]
                rfl
              exact norm_ (by simp only [putAll, Act.put, List.setIfInBounds_toArray, List.set_cons_zero, List.set_cons_succ]) (hCont (.slice Ao64 t210.length co64, .slice Ao65 t214.length co65, v219, gb222) _ ⟨hHeld, (by (with_reducible repeat (first | apply Kd.R_alloc | apply Kd.R_drewN | apply Kd.R_drew)); exact Kd.R_mono HO212.out (fun _ hk => ⟨hk.1.2, hk.2⟩)), (by (with_reducible repeat (first | apply Kd.R_alloc | apply Kd.R_drewN | apply Kd.R_drew)); exact Kd.R_mono HO216.out (fun _ hk => ⟨hk.1.2, hk.2⟩)), (by (with_reducible repeat (first | apply Kd.R_alloc | apply Kd.R_drewN | apply Kd.R_drew)); exact Kd.R_mono HO220.out (fun _ hk => ⟨hk.1.2, hk.2⟩)), (pk BK205.out), (pk BK206.out), (pk BK222.out), GW222.out, GE222.out, NB205_222.out, NB222_205.out, NB206_222.out, NB222_206.out, (bks HB.out)⟩)
          · skip
            refine box_step ?hg (N := 8) ?hd (cs := #[.int .i64 0, .slice none 0 0]) (t := 24) ?hr ?_; (case hd => rfl); (case hg => rfl); (case hr => first | (go_simp; done) | (go_simp; rfl))
            intro gb222 hg w62 hbox hb
            have n0_ := Aside0.mk (Kd.R_below (rk HO212.out) hb)
            have n1_ := Aside0.mk (blk_below (pk BK205.out) hb)
            have n2_ := Aside0.mk (blk_below (pk BK206.out) hb)
            have n3_ := Aside0.mk (below_step (bks HB.out) hb)
            have n4_ := Aside0.mk (hbox)
            have n5_ := Aside0.mk ((by rw [hg]; exact (below_size (bks HB.out)) : w.heap.size ≤ gb222))
            have n6_ := Aside0.mk ((by rw [hg]; exact (below_size (bks HB.out)) : w.heap.size ≤ gb222))
            have n7_ := Aside0.mk ((by rw [hg]; exact Nat.ne_of_lt (blk_lt (g := gb205) (o := .cells #[.int .i64 a0_0, .slice A0_1 l0_1.length c0_1] 32 (0, 0)) (pk BK205.out)) : gb205 ≠ gb222))
            have n8_ := Aside0.mk ((by rw [hg]; exact Nat.ne_of_gt (blk_lt (g := gb205) (o := .cells #[.int .i64 a0_0, .slice A0_1 l0_1.length c0_1] 32 (0, 0)) (pk BK205.out)) : gb222 ≠ gb205))
            have n9_ := Aside0.mk ((by rw [hg]; exact Nat.ne_of_lt (blk_lt (g := gb206) (o := .cells #[.int .i64 a1_0, .slice A1_1 l1_1.length c1_1] 32 (0, 0)) (pk BK206.out)) : gb206 ≠ gb222))
            have n10_ := Aside0.mk ((by rw [hg]; exact Nat.ne_of_gt (blk_lt (g := gb206) (o := .cells #[.int .i64 a1_0, .slice A1_1 l1_1.length c1_1] 32 (0, 0)) (pk BK206.out)) : gb222 ≠ gb206))
            clear HO212 BK205 BK206 HB
            have HO212 := n0_
            have BK205 := n1_
            have BK206 := n2_
            have HB := n3_
            have BK222 := n4_
            have GW222 := n5_
            have GE222 := n6_
            have NB205_222 := n7_
            have NB222_205 := n8_
            have NB206_222 := n9_
            have NB222_206 := n10_
            clear n0_ n1_ n2_ n3_ n4_ n5_ n6_ n7_ n8_ n9_ n10_ hb hbox hg
            refine hK.out _ _ ⟨(blk_cell BK205.out 0).trans rfl, (blk_cell BK205.out 1).trans rfl, (blk_cell BK206.out 0).trans rfl, (blk_cell BK206.out 1).trans rfl⟩ (fun hHeld => ?_)
            clear hK K
            refine norm_ (a' := ?_) ?_ ?_
            rotate_left
            · show Act.put _ (some 8) _ = _
              simp only [Act.put, List.setIfInBounds_toArray, List.set_cons_zero, List.set_cons_succ, i64_w, i32_w]
              rfl
            refine one_ (i := 3) (N := some 33) #[true, true, true, true, true, false, false, false, false, true, false, false] rfl rfl (one_of HT_.out (by kernel_rfl)) (by decide) (fun K hK => ?_)
            refine goes_ Try.func21 (by kernel_rfl) rfl #[.agg #[.int .i64 a1_0, .slice A1_1 l1_1.length c1_1]] (by rfl) rfl rfl (by (try simp only [List.map_toArray, List.map_cons, List.map_nil]); first | done | rfl | (simp only [List.length_drop, List.length_take]; rfl)) ?_
            with_reducible refine (laws_toRing.calls k a1_0 _ _ l1_1 t213 t214 _ ?side1 ?side2 A21.out).mono ?_
            (case side1 => repeat (first | exact (Kd.C_below HR1_1.out HB.out) | (with_reducible refine Kd.C_alloc ?_ _) | (with_reducible refine Kd.C_drewN ?_ _) | (with_reducible refine Kd.C_drew ?_)))
            (case side2 => exact HC1_1.out)
            rintro e w63 ⟨v215, rfl, ho0, hb⟩
            refine ⟨_, rfl, ?_⟩
            have n0_ := Aside0.mk (Kd.R_elder' (rk HO212.out) (Kd.R_base ho0) hb)
            have n1_ := Aside0.mk (Kd.R_lower (Kd.R_new' ho0 (Kd.R_lt (rk HO212.out))) (below_size (bks HB.out)))
            have n2_ := Aside0.mk (blk_below (pk BK205.out) hb)
            have n3_ := Aside0.mk (blk_below (pk BK206.out) hb)
            have n4_ := Aside0.mk (blk_below (pk BK222.out) hb)
            have n5_ := Aside0.mk (below_step (bks HB.out) hb)
            clear HO212 BK205 BK206 BK222 HB
            have HO212 := n0_
            have HO216 := n1_
            have BK205 := n2_
            have BK206 := n3_
            have BK222 := n4_
            have HB := n5_
            clear n0_ n1_ n2_ n3_ n4_ n5_
            (try clear hb)
            (try clear hb2)
            (try clear hk)
            (try clear hi)
            (try clear ho0)
            obtain ⟨Ao64, co64, eo64⟩ := Kd.R_slice HO212.out
            (first | subst eo64 | (injection eo64 with f1_ f2_ f3_; have f4_ := f1_.symm; have f5_ := f3_.symm; clear f1_ f2_ f3_; subst f4_; subst f5_))
            obtain ⟨Ao65, co65, eo65⟩ := Kd.R_slice HO216.out
            (first | subst eo65 | (injection eo65 with f1_ f2_ f3_; have f4_ := f1_.symm; have f5_ := f3_.symm; clear f1_ f2_ f3_; subst f4_; subst f5_))
            refine hK.out _ _ ⟨(blk_cell BK205.out 0).trans rfl, (blk_cell BK205.out 1).trans rfl, (blk_cell BK206.out 0).trans rfl, (blk_cell BK206.out 1).trans rfl⟩ (fun hHeld => ?_)
            clear hK K
            refine norm_ (a' := ?_) ?_ ?_
            rotate_left
            · show Act.put _ (some 33) _ = _
              simp only [Act.put, List.setIfInBounds_toArray, List.set_cons_zero, List.set_cons_succ, i64_w, i32_w]
              rfl
            refine one_ (i := 5) (N := some 35) #[true, true, true, true, true, true, false, false, false, true, false, false] rfl rfl (one_of HT_.out (by kernel_rfl)) (by decide) (fun K hK => ?_)
            refine goes_ Try.func25 (by kernel_rfl) rfl #[.agg #[.int .i64 t209, .slice Ao64 t210.length co64], .agg #[.int .i64 t213, .slice Ao65 t214.length co65], .int .i64 a2] (by rfl) rfl rfl (by (try simp only [List.map_toArray, List.map_cons, List.map_nil]); first | done | rfl | (simp only [List.length_drop, List.length_take]; rfl)) ?_
            with_reducible refine (spec_AddRings.calls k t209 _ _ t210 t213 _ _ t214 a2 t217 t218 t221 _ ?side1 ?side2 ?side3 ?side4 A22.out).mono ?_
            (case side1 => repeat (first | exact (Kd.R_reads' HO212.out).2.2 | (with_reducible refine Kd.C_alloc ?_ _) | (with_reducible refine Kd.C_drewN ?_ _) | (with_reducible refine Kd.C_drew ?_)))
            (case side2 => exact (Kd.R_reads' HO212.out).2.1)
            (case side3 => repeat (first | exact (Kd.R_reads' HO216.out).2.2 | (with_reducible refine Kd.C_alloc ?_ _) | (with_reducible refine Kd.C_drewN ?_ _) | (with_reducible refine Kd.C_drew ?_)))
            (case side4 => exact (Kd.R_reads' HO216.out).2.1)
            rintro e w66 ⟨v219, rfl, ho0, hb⟩
            refine ⟨_, rfl, ?_⟩
            have n0_ := Aside0.mk (Kd.R_elder' (rk HO212.out) (Kd.R_base ho0) hb)
            have n1_ := Aside0.mk (Kd.R_elder' (rk HO216.out) (Kd.R_base ho0) hb)
            have n2_ := Aside0.mk (Kd.R_lower (Kd.R_new' (Kd.R_new' ho0 (Kd.R_lt (rk HO212.out))) (Kd.R_lt (rk HO216.out))) (below_size (bks HB.out)))
            have n3_ := Aside0.mk (blk_below (pk BK205.out) hb)
            have n4_ := Aside0.mk (blk_below (pk BK206.out) hb)
            have n5_ := Aside0.mk (blk_below (pk BK222.out) hb)
            have n6_ := Aside0.mk (below_step (bks HB.out) hb)
            clear HO212 HO216 BK205 BK206 BK222 HB
            have HO212 := n0_
            have HO216 := n1_
            have HO220 := n2_
            have BK205 := n3_
            have BK206 := n4_
            have BK222 := n5_
            have HB := n6_
            clear n0_ n1_ n2_ n3_ n4_ n5_ n6_
            (try clear hb)
            (try clear hb2)
            (try clear hk)
            (try clear hi)
            (try clear ho0)
            refine hK.out _ _ ⟨(blk_cell BK205.out 0).trans rfl, (blk_cell BK205.out 1).trans rfl, (blk_cell BK206.out 0).trans rfl, (blk_cell BK206.out 1).trans rfl⟩ (fun hHeld => ?_)
            clear hK K
            refine norm_ (a' := ?_) ?_ ?_
            rotate_left
            · show Act.put _ (some 35) _ = _
              simp only [Act.put, List.setIfInBounds_toArray, List.set_cons_zero, List.set_cons_succ, i64_w, i32_w]
              rfl
            refine pure_ (i := 6) (N := some 29) (v := ?_) (a' := ?_) #[true, true, true, true, true, true, true, false, false, true, false, false] rfl rfl (any_of HT_.out (by kernel_rfl)) (fun _ _ _ h => h) (Or.inl ⟨by rfl, ?_⟩) ?_ ?_
            rotate_left
            · intro w'
              go_simp
              with_reducible rfl
            rotate_left
            · simp only [Act.put, List.setIfInBounds_toArray, List.set_cons_zero, List.set_cons_succ, i64_w, i32_w]
              rfl
            refine pure_ (i := 7) (N := some 36) (v := ?_) (a' := ?_) #[true, true, true, true, true, true, true, true, false, true, false, false] rfl rfl (any_of HT_.out (by kernel_rfl)) (fun _ _ _ h => h) (Or.inl ⟨by rfl, ?_⟩) ?_ ?_
            rotate_left
            · intro w'
              go_simp
              with_reducible rfl
            rotate_left
            · simp only [Act.put, List.setIfInBounds_toArray, List.set_cons_zero, List.set_cons_succ, i64_w, i32_w]
              rfl
            refine pure_ (i := 8) (N := some 37) (v := ?_) (a' := ?_) #[true, true, true, true, true, true, true, true, true, true, false, false] rfl rfl (any_of HT_.out (by kernel_rfl)) (fun _ _ _ h => h) (Or.inl ⟨by rfl, ?_⟩) ?_ ?_
            rotate_left
            · intro w'
              go_simp
              with_reducible rfl
            rotate_left
            · simp only [Act.put, List.setIfInBounds_toArray, List.set_cons_zero, List.set_cons_succ, i64_w, i32_w]
              rfl
            exact norm_ (by simp only [putAll, Act.put, List.setIfInBounds_toArray, List.set_cons_zero, List.set_cons_succ]) (hCont (.slice Ao64 t210.length co64, .slice Ao65 t214.length co65, v219, gb222) _ ⟨hHeld, (by (with_reducible repeat (first | apply Kd.R_alloc | apply Kd.R_drewN | apply Kd.R_drew)); exact Kd.R_mono HO212.out (fun _ hk => ⟨hk.1.2, hk.2⟩)), (by (with_reducible repeat (first | apply Kd.R_alloc | apply Kd.R_drewN | apply Kd.R_drew)); exact Kd.R_mono HO216.out (fun _ hk => ⟨hk.1.2, hk.2⟩)), (by (with_reducible repeat (first | apply Kd.R_alloc | apply Kd.R_drewN | apply Kd.R_drew)); exact Kd.R_mono HO220.out (fun _ hk => ⟨hk.1.2, hk.2⟩)), (pk BK205.out), (pk BK206.out), (pk BK222.out), GW222.out, GE222.out, NB205_222.out, NB222_205.out, NB206_222.out, NB222_206.out, (bks HB.out)⟩)
        · skip
          refine box_step ?hg (N := 8) ?hd (cs := #[.int .i64 0, .slice none 0 0]) (t := 24) ?hr ?_; (case hd => rfl); (case hg => rfl); (case hr => first | (go_simp; done) | (go_simp; rfl))
          intro gb222 hg w61 hbox hb
          have n0_ := Aside0.mk (blk_below (pk BK205.out) hb)
          have n1_ := Aside0.mk (blk_below (pk BK206.out) hb)
          have n2_ := Aside0.mk (below_step (bks HB.out) hb)
          have n3_ := Aside0.mk (hbox)
          have n4_ := Aside0.mk ((by rw [hg]; exact (below_size (bks HB.out)) : w.heap.size ≤ gb222))
          have n5_ := Aside0.mk ((by rw [hg]; exact (below_size (bks HB.out)) : w.heap.size ≤ gb222))
          have n6_ := Aside0.mk ((by rw [hg]; exact Nat.ne_of_lt (blk_lt (g := gb205) (o := .cells #[.int .i64 a0_0, .slice A0_1 l0_1.length c0_1] 32 (0, 0)) (pk BK205.out)) : gb205 ≠ gb222))
          have n7_ := Aside0.mk ((by rw [hg]; exact Nat.ne_of_gt (blk_lt (g := gb205) (o := .cells #[.int .i64 a0_0, .slice A0_1 l0_1.length c0_1] 32 (0, 0)) (pk BK205.out)) : gb222 ≠ gb205))
          have n8_ := Aside0.mk ((by rw [hg]; exact Nat.ne_of_lt (blk_lt (g := gb206) (o := .cells #[.int .i64 a1_0, .slice A1_1 l1_1.length c1_1] 32 (0, 0)) (pk BK206.out)) : gb206 ≠ gb222))
          have n9_ := Aside0.mk ((by rw [hg]; exact Nat.ne_of_gt (blk_lt (g := gb206) (o := .cells #[.int .i64 a1_0, .slice A1_1 l1_1.length c1_1] 32 (0, 0)) (pk BK206.out)) : gb222 ≠ gb206))
          clear BK205 BK206 HB
          have BK205 := n0_
          have BK206 := n1_
          have HB := n2_
          have BK222 := n3_
          have GW222 := n4_
          have GE222 := n5_
          have NB205_222 := n6_
          have NB222_205 := n7_
          have NB206_222 := n8_
          have NB222_206 := n9_
          clear n0_ n1_ n2_ n3_ n4_ n5_ n6_ n7_ n8_ n9_ hb hbox hg
          refine hK.out _ _ ⟨(blk_cell BK205.out 0).trans rfl, (blk_cell BK205.out 1).trans rfl, (blk_cell BK206.out 0).trans rfl, (blk_cell BK206.out 1).trans rfl⟩ (fun hHeld => ?_)
          clear hK K
          refine norm_ (a' := ?_) ?_ ?_
          rotate_left
          · show Act.put _ (some 8) _ = _
            simp only [Act.put, List.setIfInBounds_toArray, List.set_cons_zero, List.set_cons_succ, i64_w, i32_w]
            rfl
          refine one_ (i := 1) (N := some 31) #[true, true, true, false, true, false, false, false, false, true, false, false] rfl rfl (one_of HT_.out (by kernel_rfl)) (by decide) (fun K hK => ?_)
          refine goes_ Try.func21 (by kernel_rfl) rfl #[.agg #[.int .i64 a0_0, .slice A0_1 l0_1.length c0_1]] (by rfl) rfl rfl (by (try simp only [List.map_toArray, List.map_cons, List.map_nil]); first | done | rfl | (simp only [List.length_drop, List.length_take]; rfl)) ?_
          with_reducible refine (laws_toRing.calls k a0_0 _ _ l0_1 t209 t210 _ ?side1 ?side2 A20.out).mono ?_
          (case side1 => repeat (first | exact (Kd.C_below HR0_1.out HB.out) | (with_reducible refine Kd.C_alloc ?_ _) | (with_reducible refine Kd.C_drewN ?_ _) | (with_reducible refine Kd.C_drew ?_)))
          (case side2 => exact HC0_1.out)
          rintro e w62 ⟨v211, rfl, ho0, hb⟩
          refine ⟨_, rfl, ?_⟩
          have n0_ := Aside0.mk (Kd.R_lower ho0 (below_size (bks HB.out)))
          have n1_ := Aside0.mk (blk_below (pk BK205.out) hb)
          have n2_ := Aside0.mk (blk_below (pk BK206.out) hb)
          have n3_ := Aside0.mk (blk_below (pk BK222.out) hb)
          have n4_ := Aside0.mk (below_step (bks HB.out) hb)
          clear BK205 BK206 BK222 HB
          have HO212 := n0_
          have BK205 := n1_
          have BK206 := n2_
          have BK222 := n3_
          have HB := n4_
          clear n0_ n1_ n2_ n3_ n4_
          (try clear hb)
          (try clear hb2)
          (try clear hk)
          (try clear hi)
          (try clear ho0)
          refine hK.out _ _ ⟨(blk_cell BK205.out 0).trans rfl, (blk_cell BK205.out 1).trans rfl, (blk_cell BK206.out 0).trans rfl, (blk_cell BK206.out 1).trans rfl⟩ (fun hHeld => ?_)
          clear hK K
          refine norm_ (a' := ?_) ?_ ?_
          rotate_left
          · show Act.put _ (some 31) _ = _
            simp only [Act.put, List.setIfInBounds_toArray, List.set_cons_zero, List.set_cons_succ, i64_w, i32_w]
            rfl
          refine one_ (i := 3) (N := some 33) #[true, true, true, true, true, false, false, false, false, true, false, false] rfl rfl (one_of HT_.out (by kernel_rfl)) (by decide) (fun K hK => ?_)
          refine goes_ Try.func21 (by kernel_rfl) rfl #[.agg #[.int .i64 a1_0, .slice A1_1 l1_1.length c1_1]] (by rfl) rfl rfl (by (try simp only [List.map_toArray, List.map_cons, List.map_nil]); first | done | rfl | (simp only [List.length_drop, List.length_take]; rfl)) ?_
          with_reducible refine (laws_toRing.calls k a1_0 _ _ l1_1 t213 t214 _ ?side1 ?side2 A21.out).mono ?_
          (case side1 => repeat (first | exact (Kd.C_below HR1_1.out HB.out) | (with_reducible refine Kd.C_alloc ?_ _) | (with_reducible refine Kd.C_drewN ?_ _) | (with_reducible refine Kd.C_drew ?_)))
          (case side2 => exact HC1_1.out)
          rintro e w63 ⟨v215, rfl, ho0, hb⟩
          refine ⟨_, rfl, ?_⟩
          have n0_ := Aside0.mk (Kd.R_elder' (rk HO212.out) (Kd.R_base ho0) hb)
          have n1_ := Aside0.mk (Kd.R_lower (Kd.R_new' ho0 (Kd.R_lt (rk HO212.out))) (below_size (bks HB.out)))
          have n2_ := Aside0.mk (blk_below (pk BK205.out) hb)
          have n3_ := Aside0.mk (blk_below (pk BK206.out) hb)
          have n4_ := Aside0.mk (blk_below (pk BK222.out) hb)
          have n5_ := Aside0.mk (below_step (bks HB.out) hb)
          clear HO212 BK205 BK206 BK222 HB
          have HO212 := n0_
          have HO216 := n1_
          have BK205 := n2_
          have BK206 := n3_
          have BK222 := n4_
          have HB := n5_
          clear n0_ n1_ n2_ n3_ n4_ n5_
          (try clear hb)
          (try clear hb2)
          (try clear hk)
          (try clear hi)
          (try clear ho0)
          obtain ⟨Ao64, co64, eo64⟩ := Kd.R_slice HO212.out
          (first | subst eo64 | (injection eo64 with f1_ f2_ f3_; have f4_ := f1_.symm; have f5_ := f3_.symm; clear f1_ f2_ f3_; subst f4_; subst f5_))
          obtain ⟨Ao65, co65, eo65⟩ := Kd.R_slice HO216.out
          (first | subst eo65 | (injection eo65 with f1_ f2_ f3_; have f4_ := f1_.symm; have f5_ := f3_.symm; clear f1_ f2_ f3_; subst f4_; subst f5_))
          refine hK.out _ _ ⟨(blk_cell BK205.out 0).trans rfl, (blk_cell BK205.out 1).trans rfl, (blk_cell BK206.out 0).trans rfl, (blk_cell BK206.out 1).trans rfl⟩ (fun hHeld => ?_)
          clear hK K
          refine norm_ (a' := ?_) ?_ ?_
          rotate_left
          · show Act.put _ (some 33) _ = _
            simp only [Act.put, List.setIfInBounds_toArray, List.set_cons_zero, List.set_cons_succ, i64_w, i32_w]
            rfl
          refine one_ (i := 5) (N := some 35) #[true, true, true, true, true, true, false, false, false, true, false, false] rfl rfl (one_of HT_.out (by kernel_rfl)) (by decide) (fun K hK => ?_)
          refine goes_ Try.func25 (by kernel_rfl) rfl #[.agg #[.int .i64 t209, .slice Ao64 t210.length co64], .agg #[.int .i64 t213, .slice Ao65 t214.length co65], .int .i64 a2] (by rfl) rfl rfl (by (try simp only [List.map_toArray, List.map_cons, List.map_nil]); first | done | rfl | (simp only [List.length_drop, List.length_take]; rfl)) ?_
          with_reducible refine (spec_AddRings.calls k t209 _ _ t210 t213 _ _ t214 a2 t217 t218 t221 _ ?side1 ?side2 ?side3 ?side4 A22.out).mono ?_
          (case side1 => repeat (first | exact (Kd.R_reads' HO212.out).2.2 | (with_reducible refine Kd.C_alloc ?_ _) | (with_reducible refine Kd.C_drewN ?_ _) | (with_reducible refine Kd.C_drew ?_)))
          (case side2 => exact (Kd.R_reads' HO212.out).2.1)
          (case side3 => repeat (first | exact (Kd.R_reads' HO216.out).2.2 | (with_reducible refine Kd.C_alloc ?_ _) | (with_reducible refine Kd.C_drewN ?_ _) | (with_reducible refine Kd.C_drew ?_)))
          (case side4 => exact (Kd.R_reads' HO216.out).2.1)
          rintro e w66 ⟨v219, rfl, ho0, hb⟩
          refine ⟨_, rfl, ?_⟩
          have n0_ := Aside0.mk (Kd.R_elder' (rk HO212.out) (Kd.R_base ho0) hb)
          have n1_ := Aside0.mk (Kd.R_elder' (rk HO216.out) (Kd.R_base ho0) hb)
          have n2_ := Aside0.mk (Kd.R_lower (Kd.R_new' (Kd.R_new' ho0 (Kd.R_lt (rk HO212.out))) (Kd.R_lt (rk HO216.out))) (below_size (bks HB.out)))
          have n3_ := Aside0.mk (blk_below (pk BK205.out) hb)
          have n4_ := Aside0.mk (blk_below (pk BK206.out) hb)
          have n5_ := Aside0.mk (blk_below (pk BK222.out) hb)
          have n6_ := Aside0.mk (below_step (bks HB.out) hb)
          clear HO212 HO216 BK205 BK206 BK222 HB
          have HO212 := n0_
          have HO216 := n1_
          have HO220 := n2_
          have BK205 := n3_
          have BK206 := n4_
          have BK222 := n5_
          have HB := n6_
          clear n0_ n1_ n2_ n3_ n4_ n5_ n6_
          (try clear hb)
          (try clear hb2)
          (try clear hk)
          (try clear hi)
          (try clear ho0)
          refine hK.out _ _ ⟨(blk_cell BK205.out 0).trans rfl, (blk_cell BK205.out 1).trans rfl, (blk_cell BK206.out 0).trans rfl, (blk_cell BK206.out 1).trans rfl⟩ (fun hHeld => ?_)
          clear hK K
          refine norm_ (a' := ?_) ?_ ?_
          rotate_left
          · show Act.put _ (some 35) _ = _
            simp only [Act.put, List.setIfInBounds_toArray, List.set_cons_zero, List.set_cons_succ, i64_w, i32_w]
            rfl
          refine pure_ (i := 6) (N := some 29) (v := ?_) (a' := ?_) #[true, true, true, true, true, true, true, false, false, true, false, false] rfl rfl (any_of HT_.out (by kernel_rfl)) (fun _ _ _ h => h) (Or.inl ⟨by rfl, ?_⟩) ?_ ?_
          rotate_left
          · intro w'
            go_simp
            with_reducible rfl
          rotate_left
          · simp only [Act.put, List.setIfInBounds_toArray, List.set_cons_zero, List.set_cons_succ, i64_w, i32_w]
            rfl
          refine pure_ (i := 7) (N := some 36) (v := ?_) (a' := ?_) #[true, true, true, true, true, true, true, true, false, true, false, false] rfl rfl (any_of HT_.out (by kernel_rfl)) (fun _ _ _ h => h) (Or.inl ⟨by rfl, ?_⟩) ?_ ?_
          rotate_left
          · intro w'
            go_simp
            with_reducible rfl
          rotate_left
          · simp only [Act.put, List.setIfInBounds_toArray, List.set_cons_zero, List.set_cons_succ, i64_w, i32_w]
            rfl
          refine pure_ (i := 8) (N := some 37) (v := ?_) (a' := ?_) #[true, true, true, true, true, true, true, true, true, true, false, false] rfl rfl (any_of HT_.out (by kernel_rfl)) (fun _ _ _ h => h) (Or.inl ⟨by rfl, ?_⟩) ?_ ?_
          rotate_left
          · intro w'
            go_simp
            with_reducible rfl
          rotate_left
          · simp only [Act.put, List.setIfInBounds_toArray, List.set_cons_zero, List.set_cons_succ, i64_w, i32_w]
            rfl
          exact norm_ (by simp only [putAll, Act.put, List.setIfInBounds_toArray, List.set_cons_zero, List.set_cons_succ]) (hCont (.slice Ao64 t210.length co64, .slice Ao65 t214.length co65, v219, gb222) _ ⟨hHeld, (by (with_reducible repeat (first | apply Kd.R_alloc | apply Kd.R_drewN | apply Kd.R_drew)); exact Kd.R_mono HO212.out (fun _ hk => ⟨hk.1.2, hk.2⟩)), (by (with_reducible repeat (first | apply Kd.R_alloc | apply Kd.R_drewN | apply Kd.R_drew)); exact Kd.R_mono HO216.out (fun _ hk => ⟨hk.1.2, hk.2⟩)), (by (with_reducible repeat (first | apply Kd.R_alloc | apply Kd.R_drewN | apply Kd.R_drew)); exact Kd.R_mono HO220.out (fun _ hk => ⟨hk.1.2, hk.2⟩)), (pk BK205.out), (pk BK206.out), (pk BK222.out), GW222.out, GE222.out, NB205_222.out, NB222_205.out, NB206_222.out, NB222_206.out, (bks HB.out)⟩)
      rintro ⟨v211, v215, v219, gb222⟩ w67 ⟨hS_, h0_, h1_, h2_, h3_, h4_, h5_, h6_, h7_, h8_, h9_, h10_, h11_, h12_⟩
      have n0_ : Aside0 (Kd.R (Kd.int .i64) 2 w67 w.heap.size (fun k_ => some k_ ≠ (v215 : Value).ownBlock ∧ some k_ ≠ (v219 : Value).ownBlock) v211 t210) := ⟨h0_⟩
      have n1_ : Aside0 (Kd.R (Kd.int .i64) 2 w67 w.heap.size (fun k_ => some k_ ≠ (v211 : Value).ownBlock ∧ some k_ ≠ (v219 : Value).ownBlock) v215 t214) := ⟨h1_⟩
      have n2_ : Aside0 (Kd.R (Kd.int .i64) 2 w67 w.heap.size (fun k_ => some k_ ≠ (v211 : Value).ownBlock ∧ some k_ ≠ (v215 : Value).ownBlock) v219 t218) := ⟨h2_⟩
      have n3_ : Aside0 (w67.heap[gb205]? = some (.cells #[.int .i64 a0_0, .slice A0_1 l0_1.length c0_1] 32 (0, 0))) := ⟨h3_⟩
      have n4_ : Aside0 (w67.heap[gb206]? = some (.cells #[.int .i64 a1_0, .slice A1_1 l1_1.length c1_1] 32 (0, 0))) := ⟨h4_⟩
      have n5_ : Aside0 (w67.heap[gb222]? = some (.cells #[.int .i64 0, .slice none 0 0] 24 (0, 0))) := ⟨h5_⟩
      have n6_ : Aside0 (w.heap.size ≤ gb222) := ⟨h6_⟩
      have n7_ : Aside0 (w.heap.size ≤ gb222) := ⟨h7_⟩
      have n8_ : Aside0 (gb205 ≠ gb222) := ⟨h8_⟩
      have n9_ : Aside0 (gb222 ≠ gb205) := ⟨h9_⟩
      have n10_ : Aside0 (gb206 ≠ gb222) := ⟨h10_⟩
      have n11_ : Aside0 (gb222 ≠ gb206) := ⟨h11_⟩
      have n12_ : Aside0 (Below w.heap.size w w67) := ⟨h12_⟩
      clear BK205 BK206 HB h0_ h1_ h2_ h3_ h4_ h5_ h6_ h7_ h8_ h9_ h10_ h11_ h12_
      have HO212 := n0_
      have HO216 := n1_
      have HO220 := n2_
      have BK205 := n3_
      have BK206 := n4_
      have BK222 := n5_
      have GW222 := n6_
      have GE222 := n7_
      have NB205_222 := n8_
      have NB222_205 := n9_
      have NB206_222 := n10_
      have NB222_206 := n11_
      have HB := n12_
      clear n0_ n1_ n2_ n3_ n4_ n5_ n6_ n7_ n8_ n9_ n10_ n11_ n12_
      have hHeld : w67.cell? ⟨gb205, 0, none⟩ = some (.int .i64 a0_0) ∧ w67.cell? ⟨gb205, 1, none⟩ = some (.slice A0_1 l0_1.length c0_1) ∧ w67.cell? ⟨gb206, 0, none⟩ = some (.int .i64 a1_0) ∧ w67.cell? ⟨gb206, 1, none⟩ = some (.slice A1_1 l1_1.length c1_1) := hS_
      obtain ⟨Ao69, co69, eo69⟩ := Kd.R_slice HO220.out
      (first | subst eo69 | (injection eo69 with f1_ f2_ f3_; have f4_ := f1_.symm; have f5_ := f3_.symm; clear f1_ f2_ f3_; subst f4_; subst f5_))
      refine norm_ (a' := ?_) ?_ ?_
      rotate_left
      · simp only [putAll, Act.put, List.setIfInBounds_toArray, List.set_cons_zero, List.set_cons_succ]
        rfl
      refine one_ (i := 10) (N := none) #[true, true, true, true, true, true, true, true, true, true, true, false] rfl rfl (one_of HT_.out (by kernel_rfl)) (by decide) (fun K hK => ?_)
      have hs68 : w67.cell? ⟨gb222, 0, none⟩ = some (.int .i64 0) := (blk_cell BK222.out 0).trans rfl
      have hfs68 := blk_frozen BK222.out 0
      have hns68_0 := NB205_222.out
      have hns68_1 := NB206_222.out
      have hms68_0 := NB222_205.out
      have hms68_1 := NB222_206.out
      have hs70 : w67.cell? ⟨gb222, 1, none⟩ = some (.slice none 0 0) := (blk_cell BK222.out 1).trans rfl
      have hfs70 := blk_frozen BK222.out 1
      have hns70_0 := NB205_222.out
      have hns70_1 := NB206_222.out
      have hms70_0 := NB222_205.out
      have hms70_1 := NB222_206.out
      refine skip_ (w1 := ?_) (by rfl) rfl ?_ ?_
      rotate_left
      · go_simp
        rfl
      refine hK.out _ _ ⟨((cell_far (p := ⟨gb222, _, none⟩) NB205_222.out _).trans (((cell_far (p := ⟨gb222, _, none⟩) NB205_222.out _).trans (hHeld.1)))), ((cell_far (p := ⟨gb222, _, none⟩) NB205_222.out _).trans (((cell_far (p := ⟨gb222, _, none⟩) NB205_222.out _).trans (hHeld.2.1)))), ((cell_far (p := ⟨gb222, _, none⟩) NB206_222.out _).trans (((cell_far (p := ⟨gb222, _, none⟩) NB206_222.out _).trans (hHeld.2.2.1)))), ((cell_far (p := ⟨gb222, _, none⟩) NB206_222.out _).trans (((cell_far (p := ⟨gb222, _, none⟩) NB206_222.out _).trans (hHeld.2.2.2))))⟩ (fun hHeld => ?_)
      clear hK K
      refine pure_ (i := 11) (N := some 9) (v := ?_) (a' := ?_) #[true, true, true, true, true, true, true, true, true, true, true, true] rfl rfl (any_of HT_.out (by kernel_rfl)) (fun _ _ _ h => h) (Or.inl ⟨by rfl, ?_⟩) ?_ ?_
      rotate_left
      · intro w'
        go_simp
        with_reducible rfl
      rotate_left
      · simp only [Act.put, List.setIfInBounds_toArray, List.set_cons_zero, List.set_cons_succ, i64_w, i32_w]
        rfl
      refine done_ (done_of HT_.out (by kernel_rfl)) ?_
      have hnb71 := NB205_222.out
      have hnc71 := NB222_205.out
      have hcz72_0 : w67.cell? ⟨gb205, 0, none⟩ = some (.int .i64 a0_0) := (blk_cell BK205.out 0).trans rfl
      have hcz72_1 : w67.cell? ⟨gb205, 1, none⟩ = some (.slice A0_1 l0_1.length c0_1) := (blk_cell BK205.out 1).trans rfl
      have hfz72_0 := blk_frozen BK205.out 0
      have hfz72_1 := blk_frozen BK205.out 1
      try go_wp2_with (first | ((with_reducible refine gate_callee (f := 21) rfl ?_); refine goesL_ (some 39) rfl rfl Try.func21 (by kernel_rfl) rfl #[.agg #[.int .i64 a0_0, .slice A0_1 l0_1.length c0_1]] rfl (by (try simp only [List.map_toArray, List.map_cons, List.map_nil]); first | done | rfl | (simp only [List.length_drop, List.length_take]; rfl)) ?_; (with_reducible refine (laws_toRing.calls k a0_0 _ _ l0_1 t223 t224 _ ?side1 ?side2 A23.out).mono ?_); (case side1 => exact Kd.C_below HR0_1.out (bks HB.out)); (case side2 => exact HC0_1.out); rintro e w73 ⟨v225, rfl, ho0, hb⟩; refine ⟨_, rfl, ?_⟩; have n0_ := Aside0.mk (Kd.R_elder' (rk (Kd.R_mono (Kd.R_far (p := ⟨gb222, 1, none⟩) (Kd.R_far (p := ⟨gb222, 0, none⟩) (Kd.R_types HO212.out BK222.out (by decide)) (fun _ hk => hk.2) (.int .i64 t217)) (fun _ hk => hk.2) (.slice Ao69 t218.length co69)) (fun _ h_ => h_.1))) (Kd.R_base ho0) hb); have n1_ := Aside0.mk (Kd.R_elder' (rk (Kd.R_mono (Kd.R_far (p := ⟨gb222, 1, none⟩) (Kd.R_far (p := ⟨gb222, 0, none⟩) (Kd.R_types HO216.out BK222.out (by decide)) (fun _ hk => hk.2) (.int .i64 t217)) (fun _ hk => hk.2) (.slice Ao69 t218.length co69)) (fun _ h_ => h_.1))) (Kd.R_base ho0) hb); have n2_ := Aside0.mk (Kd.R_elder' (rk (Kd.R_mono (Kd.R_far (p := ⟨gb222, 1, none⟩) (Kd.R_far (p := ⟨gb222, 0, none⟩) (Kd.R_types HO220.out BK222.out (by decide)) (fun _ hk => hk.2) (.int .i64 t217)) (fun _ hk => hk.2) (.slice Ao69 t218.length co69)) (fun _ h_ => h_.1))) (Kd.R_base ho0) hb); have n3_ := Aside0.mk (Kd.R_lower (Kd.R_new' (Kd.R_new' (Kd.R_new' ho0 (Kd.R_lt (rk (Kd.R_mono (Kd.R_far (p := ⟨gb222, 1, none⟩) (Kd.R_far (p := ⟨gb222, 0, none⟩) (Kd.R_types HO212.out BK222.out (by decide)) (fun _ hk => hk.2) (.int .i64 t217)) (fun _ hk => hk.2) (.slice Ao69 t218.length co69)) (fun _ h_ => h_.1))))) (Kd.R_lt (rk (Kd.R_mono (Kd.R_far (p := ⟨gb222, 1, none⟩) (Kd.R_far (p := ⟨gb222, 0, none⟩) (Kd.R_types HO216.out BK222.out (by decide)) (fun _ hk => hk.2) (.int .i64 t217)) (fun _ hk => hk.2) (.slice Ao69 t218.length co69)) (fun _ h_ => h_.1))))) (Kd.R_lt (rk (Kd.R_mono (Kd.R_far (p := ⟨gb222, 1, none⟩) (Kd.R_far (p := ⟨gb222, 0, none⟩) (Kd.R_types HO220.out BK222.out (by decide)) (fun _ hk => hk.2) (.int .i64 t217)) (fun _ hk => hk.2) (.slice Ao69 t218.length co69)) (fun _ h_ => h_.1))))) (below_size (bks HB.out))); have n4_ := Aside0.mk (blk_below (g := gb205) (o := .cells #[.int .i64 a0_0, .slice A0_1 l0_1.length c0_1] 32 (0, 0)) (by (with_reducible repeat (first | refine blk_drewN ?_ _ | refine blk_drew ?_ | refine blk_alloc ?_ _)); refine blk_far ?_ NB205_222.out _; (with_reducible repeat (first | refine blk_drewN ?_ _ | refine blk_drew ?_ | refine blk_alloc ?_ _)); refine blk_far ?_ NB205_222.out _; (with_reducible repeat (first | refine blk_drewN ?_ _ | refine blk_drew ?_ | refine blk_alloc ?_ _)); exact BK205.out) hb); have n5_ := Aside0.mk (blk_below (g := gb206) (o := .cells #[.int .i64 a1_0, .slice A1_1 l1_1.length c1_1] 32 (0, 0)) (by (with_reducible repeat (first | refine blk_drewN ?_ _ | refine blk_drew ?_ | refine blk_alloc ?_ _)); refine blk_far ?_ NB206_222.out _; (with_reducible repeat (first | refine blk_drewN ?_ _ | refine blk_drew ?_ | refine blk_alloc ?_ _)); refine blk_far ?_ NB206_222.out _; (with_reducible repeat (first | refine blk_drewN ?_ _ | refine blk_drew ?_ | refine blk_alloc ?_ _)); exact BK206.out) hb); have n6_ := Aside0.mk (blk_below (g := gb222) (o := .cells #[.int .i64 t217, .slice Ao69 t218.length co69] 24 (0, 0)) (by (with_reducible repeat (first | refine blk_drewN ?_ _ | refine blk_drew ?_ | refine blk_alloc ?_ _)); refine blk_put (cs := #[.int .i64 t217, .slice none 0 0]) ?_ 1 _ rfl; (with_reducible repeat (first | refine blk_drewN ?_ _ | refine blk_drew ?_ | refine blk_alloc ?_ _)); refine blk_put (cs := #[.int .i64 0, .slice none 0 0]) ?_ 0 _ rfl; (with_reducible repeat (first | refine blk_drewN ?_ _ | refine blk_drew ?_ | refine blk_alloc ?_ _)); exact BK222.out) hb); have n7_ := Aside0.mk (below_step (bks HB.out) hb); clear HO212; clear HO216; clear HO220; clear BK205; clear BK206; clear BK222; clear HB; have HO212 := n0_; have HO216 := n1_; have HO220 := n2_; have HO226 := n3_; have BK205 := n4_; have BK206 := n5_; have BK222 := n6_; have HB := n7_; clear n0_ n1_ n2_ n3_ n4_ n5_ n6_ n7_; (try clear hb); (try clear hb2); (try clear hk); (try clear hi); (try clear ho0)) | ((with_reducible refine gate_dst (N := 10) rfl ?_); refine box_event ?hg (N := 10) ?hd (cs := #[.int .i64 0, .slice none 0 0]) (t := 24) ?hr ?_; (case hd => rfl); (case hg => rfl); (case hr => first | (go_simp; done) | (go_simp; rfl)); intro gb227 hg w74 hbox hb; have n0_ := Aside0.mk (Kd.R_below (rk HO212.out) hb); have n1_ := Aside0.mk (Kd.R_below (rk HO216.out) hb); have n2_ := Aside0.mk (Kd.R_below (rk HO220.out) hb); have n3_ := Aside0.mk (Kd.R_below (rk HO226.out) hb); have n4_ := Aside0.mk (blk_below (pk BK205.out) hb); have n5_ := Aside0.mk (blk_below (pk BK206.out) hb); have n6_ := Aside0.mk (blk_below (pk BK222.out) hb); have n7_ := Aside0.mk (below_step (bks HB.out) hb); have n8_ := Aside0.mk (hbox); have n9_ := Aside0.mk ((by rw [hg]; exact (below_size (bks HB.out)) : w.heap.size ≤ gb227)); have n10_ := Aside0.mk ((by rw [hg]; exact (below_size (bks HB.out)) : w.heap.size ≤ gb227)); have n11_ := Aside0.mk ((by rw [hg]; exact Nat.ne_of_lt (blk_lt (g := gb205) (o := .cells #[.int .i64 a0_0, .slice A0_1 l0_1.length c0_1] 32 (0, 0)) (pk BK205.out)) : gb205 ≠ gb227)); have n12_ := Aside0.mk ((by rw [hg]; exact Nat.ne_of_gt (blk_lt (g := gb205) (o := .cells #[.int .i64 a0_0, .slice A0_1 l0_1.length c0_1] 32 (0, 0)) (pk BK205.out)) : gb227 ≠ gb205)); have n13_ := Aside0.mk ((by rw [hg]; exact Nat.ne_of_lt (blk_lt (g := gb206) (o := .cells #[.int .i64 a1_0, .slice A1_1 l1_1.length c1_1] 32 (0, 0)) (pk BK206.out)) : gb206 ≠ gb227)); have n14_ := Aside0.mk ((by rw [hg]; exact Nat.ne_of_gt (blk_lt (g := gb206) (o := .cells #[.int .i64 a1_0, .slice A1_1 l1_1.length c1_1] 32 (0, 0)) (pk BK206.out)) : gb227 ≠ gb206)); have n15_ := Aside0.mk ((by rw [hg]; exact Nat.ne_of_lt (blk_lt (g := gb222) (o := .cells #[.int .i64 t217, .slice Ao69 t218.length co69] 24 (0, 0)) (pk BK222.out)) : gb222 ≠ gb227)); have n16_ := Aside0.mk ((by rw [hg]; exact Nat.ne_of_gt (blk_lt (g := gb222) (o := .cells #[.int .i64 t217, .slice Ao69 t218.length co69] 24 (0, 0)) (pk BK222.out)) : gb227 ≠ gb222)); clear HO212; clear HO216; clear HO220; clear HO226; clear BK205; clear BK206; clear BK222; clear HB; have HO212 := n0_; have HO216 := n1_; have HO220 := n2_; have HO226 := n3_; have BK205 := n4_; have BK206 := n5_; have BK222 := n6_; have HB := n7_; have BK227 := n8_; have GW227 := n9_; have GE227 := n10_; have NB205_227 := n11_; have NB227_205 := n12_; have NB206_227 := n13_; have NB227_206 := n14_; have NB222_227 := n15_; have NB227_222 := n16_; clear n0_ n1_ n2_ n3_ n4_ n5_ n6_ n7_ n8_ n9_ n10_ n11_ n12_ n13_ n14_ n15_ n16_; clear hb hbox hg; have hnb75 := NB227_205.out; have hnc75 := NB205_227.out; have hnb76 := NB227_206.out; have hnc76 := NB206_227.out; have hnb77 := NB227_222.out; have hnc77 := NB222_227.out; have hcz78_0 : w74.cell? ⟨gb227, 0, none⟩ = some (.int .i64 0) := (blk_cell BK227.out 0).trans rfl; have hcz78_1 : w74.cell? ⟨gb227, 1, none⟩ = some (.slice none 0 0) := (blk_cell BK227.out 1).trans rfl; have hfz78_0 := blk_frozen BK227.out 0; have hfz78_1 := blk_frozen BK227.out 1; obtain ⟨Ao79, co79, eo79⟩ := Kd.R_slice HO226.out; subst eo79; have hnb80 := NB206_222.out; have hnc80 := NB222_206.out; have hcz81_0 : w74.cell? ⟨gb206, 0, none⟩ = some (.int .i64 a1_0) := (blk_cell BK206.out 0).trans rfl; have hcz81_1 : w74.cell? ⟨gb206, 1, none⟩ = some (.slice A1_1 l1_1.length c1_1) := (blk_cell BK206.out 1).trans rfl; have hfz81_0 := blk_frozen BK206.out 0; have hfz81_1 := blk_frozen BK206.out 1) | ((with_reducible refine gate_callee (f := 21) rfl ?_); refine goesL_ (some 41) rfl rfl Try.func21 (by kernel_rfl) rfl #[.agg #[.int .i64 a1_0, .slice A1_1 l1_1.length c1_1]] rfl (by (try simp only [List.map_toArray, List.map_cons, List.map_nil]); first | done | rfl | (simp only [List.length_drop, List.length_take]; rfl)) ?_; (with_reducible refine (laws_toRing.calls k a1_0 _ _ l1_1 t228 t229 _ ?side1 ?side2 A24.out).mono ?_); (case side1 => exact Kd.C_below HR1_1.out (bks HB.out)); (case side2 => exact HC1_1.out); rintro e w82 ⟨v230, rfl, ho0, hb⟩; refine ⟨_, rfl, ?_⟩; have n0_ := Aside0.mk (Kd.R_elder' (rk (Kd.R_mono (Kd.R_far (p := ⟨gb227, 1, none⟩) (Kd.R_far (p := ⟨gb227, 0, none⟩) (Kd.R_types HO212.out BK227.out (by decide)) (fun _ hk => hk.2) (.int .i64 t223)) (fun _ hk => hk.2) (.slice Ao79 t224.length co79)) (fun _ h_ => h_.1))) (Kd.R_base ho0) hb); have n1_ := Aside0.mk (Kd.R_elder' (rk (Kd.R_mono (Kd.R_far (p := ⟨gb227, 1, none⟩) (Kd.R_far (p := ⟨gb227, 0, none⟩) (Kd.R_types HO216.out BK227.out (by decide)) (fun _ hk => hk.2) (.int .i64 t223)) (fun _ hk => hk.2) (.slice Ao79 t224.length co79)) (fun _ h_ => h_.1))) (Kd.R_base ho0) hb); have n2_ := Aside0.mk (Kd.R_elder' (rk (Kd.R_mono (Kd.R_far (p := ⟨gb227, 1, none⟩) (Kd.R_far (p := ⟨gb227, 0, none⟩) (Kd.R_types HO220.out BK227.out (by decide)) (fun _ hk => hk.2) (.int .i64 t223)) (fun _ hk => hk.2) (.slice Ao79 t224.length co79)) (fun _ h_ => h_.1))) (Kd.R_base ho0) hb); have n3_ := Aside0.mk (Kd.R_elder' (rk (Kd.R_mono (Kd.R_far (p := ⟨gb227, 1, none⟩) (Kd.R_far (p := ⟨gb227, 0, none⟩) (Kd.R_types HO226.out BK227.out (by decide)) (fun _ hk => hk.2) (.int .i64 t223)) (fun _ hk => hk.2) (.slice Ao79 t224.length co79)) (fun _ h_ => h_.1))) (Kd.R_base ho0) hb); have n4_ := Aside0.mk (Kd.R_lower (Kd.R_new' (Kd.R_new' (Kd.R_new' (Kd.R_new' ho0 (Kd.R_lt (rk (Kd.R_mono (Kd.R_far (p := ⟨gb227, 1, none⟩) (Kd.R_far (p := ⟨gb227, 0, none⟩) (Kd.R_types HO212.out BK227.out (by decide)) (fun _ hk => hk.2) (.int .i64 t223)) (fun _ hk => hk.2) (.slice Ao79 t224.length co79)) (fun _ h_ => h_.1))))) (Kd.R_lt (rk (Kd.R_mono (Kd.R_far (p := ⟨gb227, 1, none⟩) (Kd.R_far (p := ⟨gb227, 0, none⟩) (Kd.R_types HO216.out BK227.out (by decide)) (fun _ hk => hk.2) (.int .i64 t223)) (fun _ hk => hk.2) (.slice Ao79 t224.length co79)) (fun _ h_ => h_.1))))) (Kd.R_lt (rk (Kd.R_mono (Kd.R_far (p := ⟨gb227, 1, none⟩) (Kd.R_far (p := ⟨gb227, 0, none⟩) (Kd.R_types HO220.out BK227.out (by decide)) (fun _ hk => hk.2) (.int .i64 t223)) (fun _ hk => hk.2) (.slice Ao79 t224.length co79)) (fun _ h_ => h_.1))))) (Kd.R_lt (rk (Kd.R_mono (Kd.R_far (p := ⟨gb227, 1, none⟩) (Kd.R_far (p := ⟨gb227, 0, none⟩) (Kd.R_types HO226.out BK227.out (by decide)) (fun _ hk => hk.2) (.int .i64 t223)) (fun _ hk => hk.2) (.slice Ao79 t224.length co79)) (fun _ h_ => h_.1))))) (below_size (bks HB.out))); have n5_ := Aside0.mk (blk_below (g := gb205) (o := .cells #[.int .i64 a0_0, .slice A0_1 l0_1.length c0_1] 32 (0, 0)) (by (with_reducible repeat (first | refine blk_drewN ?_ _ | refine blk_drew ?_ | refine blk_alloc ?_ _)); refine blk_far ?_ NB205_227.out _; (with_reducible repeat (first | refine blk_drewN ?_ _ | refine blk_drew ?_ | refine blk_alloc ?_ _)); refine blk_far ?_ NB205_227.out _; (with_reducible repeat (first | refine blk_drewN ?_ _ | refine blk_drew ?_ | refine blk_alloc ?_ _)); exact BK205.out) hb); have n6_ := Aside0.mk (blk_below (g := gb206) (o := .cells #[.int .i64 a1_0, .slice A1_1 l1_1.length c1_1] 32 (0, 0)) (by (with_reducible repeat (first | refine blk_drewN ?_ _ | refine blk_drew ?_ | refine blk_alloc ?_ _)); refine blk_far ?_ NB206_227.out _; (with_reducible repeat (first | refine blk_drewN ?_ _ | refine blk_drew ?_ | refine blk_alloc ?_ _)); refine blk_far ?_ NB206_227.out _; (with_reducible repeat (first | refine blk_drewN ?_ _ | refine blk_drew ?_ | refine blk_alloc ?_ _)); exact BK206.out) hb); have n7_ := Aside0.mk (blk_below (g := gb222) (o := .cells #[.int .i64 t217, .slice Ao69 t218.length co69] 24 (0, 0)) (by (with_reducible repeat (first | refine blk_drewN ?_ _ | refine blk_drew ?_ | refine blk_alloc ?_ _)); refine blk_far ?_ NB222_227.out _; (with_reducible repeat (first | refine blk_drewN ?_ _ | refine blk_drew ?_ | refine blk_alloc ?_ _)); refine blk_far ?_ NB222_227.out _; (with_reducible repeat (first | refine blk_drewN ?_ _ | refine blk_drew ?_ | refine blk_alloc ?_ _)); exact BK222.out) hb); have n8_ := Aside0.mk (blk_below (g := gb227) (o := .cells #[.int .i64 t223, .slice Ao79 t224.length co79] 24 (0, 0)) (by (with_reducible repeat (first | refine blk_drewN ?_ _ | refine blk_drew ?_ | refine blk_alloc ?_ _)); refine blk_put (cs := #[.int .i64 t223, .slice none 0 0]) ?_ 1 _ rfl; (with_reducible repeat (first | refine blk_drewN ?_ _ | refine blk_drew ?_ | refine blk_alloc ?_ _)); refine blk_put (cs := #[.int .i64 0, .slice none 0 0]) ?_ 0 _ rfl; (with_reducible repeat (first | refine blk_drewN ?_ _ | refine blk_drew ?_ | refine blk_alloc ?_ _)); exact BK227.out) hb); have n9_ := Aside0.mk (below_step (bks HB.out) hb); clear HO212; clear HO216; clear HO220; clear HO226; clear BK205; clear BK206; clear BK222; clear BK227; clear HB; have HO212 := n0_; have HO216 := n1_; have HO220 := n2_; have HO226 := n3_; have HO231 := n4_; have BK205 := n5_; have BK206 := n6_; have BK222 := n7_; have BK227 := n8_; have HB := n9_; clear n0_ n1_ n2_ n3_ n4_ n5_ n6_ n7_ n8_ n9_; (try clear hb); (try clear hb2); (try clear hk); (try clear hi); (try clear ho0)) | ((with_reducible refine gate_dst (N := 11) rfl ?_); refine box_event ?hg (N := 11) ?hd (cs := #[.int .i64 0, .slice none 0 0]) (t := 24) ?hr ?_; (case hd => rfl); (case hg => rfl); (case hr => first | (go_simp; done) | (go_simp; rfl)); intro gb232 hg w83 hbox hb; have n0_ := Aside0.mk (Kd.R_below (rk HO212.out) hb); have n1_ := Aside0.mk (Kd.R_below (rk HO216.out) hb); have n2_ := Aside0.mk (Kd.R_below (rk HO220.out) hb); have n3_ := Aside0.mk (Kd.R_below (rk HO226.out) hb); have n4_ := Aside0.mk (Kd.R_below (rk HO231.out) hb); have n5_ := Aside0.mk (blk_below (pk BK205.out) hb); have n6_ := Aside0.mk (blk_below (pk BK206.out) hb); have n7_ := Aside0.mk (blk_below (pk BK222.out) hb); have n8_ := Aside0.mk (blk_below (pk BK227.out) hb); have n9_ := Aside0.mk (below_step (bks HB.out) hb); have n10_ := Aside0.mk (hbox); have n11_ := Aside0.mk ((by rw [hg]; exact (below_size (bks HB.out)) : w.heap.size ≤ gb232)); have n12_ := Aside0.mk ((by rw [hg]; exact (below_size (bks HB.out)) : w.heap.size ≤ gb232)); have n13_ := Aside0.mk ((by rw [hg]; exact Nat.ne_of_lt (blk_lt (g := gb205) (o := .cells #[.int .i64 a0_0, .slice A0_1 l0_1.length c0_1] 32 (0, 0)) (pk BK205.out)) : gb205 ≠ gb232)); have n14_ := Aside0.mk ((by rw [hg]; exact Nat.ne_of_gt (blk_lt (g := gb205) (o := .cells #[.int .i64 a0_0, .slice A0_1 l0_1.length c0_1] 32 (0, 0)) (pk BK205.out)) : gb232 ≠ gb205)); have n15_ := Aside0.mk ((by rw [hg]; exact Nat.ne_of_lt (blk_lt (g := gb206) (o := .cells #[.int .i64 a1_0, .slice A1_1 l1_1.length c1_1] 32 (0, 0)) (pk BK206.out)) : gb206 ≠ gb232)); have n16_ := Aside0.mk ((by rw [hg]; exact Nat.ne_of_gt (blk_lt (g := gb206) (o := .cells #[.int .i64 a1_0, .slice A1_1 l1_1.length c1_1] 32 (0, 0)) (pk BK206.out)) : gb232 ≠ gb206)); have n17_ := Aside0.mk ((by rw [hg]; exact Nat.ne_of_lt (blk_lt (g := gb222) (o := .cells #[.int .i64 t217, .slice Ao69 t218.length co69] 24 (0, 0)) (pk BK222.out)) : gb222 ≠ gb232)); have n18_ := Aside0.mk ((by rw [hg]; exact Nat.ne_of_gt (blk_lt (g := gb222) (o := .cells #[.int .i64 t217, .slice Ao69 t218.length co69] 24 (0, 0)) (pk BK222.out)) : gb232 ≠ gb222)); have n19_ := Aside0.mk ((by rw [hg]; exact Nat.ne_of_lt (blk_lt (g := gb227) (o := .cells #[.int .i64 t223, .slice Ao79 t224.length co79] 24 (0, 0)) (pk BK227.out)) : gb227 ≠ gb232)); have n20_ := Aside0.mk ((by rw [hg]; exact Nat.ne_of_gt (blk_lt (g := gb227) (o := .cells #[.int .i64 t223, .slice Ao79 t224.length co79] 24 (0, 0)) (pk BK227.out)) : gb232 ≠ gb227)); clear HO212; clear HO216; clear HO220; clear HO226; clear HO231; clear BK205; clear BK206; clear BK222; clear BK227; clear HB; have HO212 := n0_; have HO216 := n1_; have HO220 := n2_; have HO226 := n3_; have HO231 := n4_; have BK205 := n5_; have BK206 := n6_; have BK222 := n7_; have BK227 := n8_; have HB := n9_; have BK232 := n10_; have GW232 := n11_; have GE232 := n12_; have NB205_232 := n13_; have NB232_205 := n14_; have NB206_232 := n15_; have NB232_206 := n16_; have NB222_232 := n17_; have NB232_222 := n18_; have NB227_232 := n19_; have NB232_227 := n20_; clear n0_ n1_ n2_ n3_ n4_ n5_ n6_ n7_ n8_ n9_ n10_ n11_ n12_ n13_ n14_ n15_ n16_ n17_ n18_ n19_ n20_; clear hb hbox hg; have hnb84 := NB232_205.out; have hnc84 := NB205_232.out; have hnb85 := NB232_206.out; have hnc85 := NB206_232.out; have hnb86 := NB232_222.out; have hnc86 := NB222_232.out; have hnb87 := NB232_227.out; have hnc87 := NB227_232.out; have hcz88_0 : w83.cell? ⟨gb232, 0, none⟩ = some (.int .i64 0) := (blk_cell BK232.out 0).trans rfl; have hcz88_1 : w83.cell? ⟨gb232, 1, none⟩ = some (.slice none 0 0) := (blk_cell BK232.out 1).trans rfl; have hfz88_0 := blk_frozen BK232.out 0; have hfz88_1 := blk_frozen BK232.out 1; obtain ⟨Ao89, co89, eo89⟩ := Kd.R_slice HO231.out; subst eo89; have hcz90_0 : w83.cell? ⟨gb227, 0, none⟩ = some (.int .i64 t223) := (blk_cell BK227.out 0).trans rfl; have hcz90_1 : w83.cell? ⟨gb227, 1, none⟩ = some (.slice Ao79 t224.length co79) := (blk_cell BK227.out 1).trans rfl; have hfz90_0 := blk_frozen BK227.out 0; have hfz90_1 := blk_frozen BK227.out 1) | ((with_reducible refine gate_callee (f := 26) rfl ?_); refine goesL_ (some 46) rfl rfl Try.func26 (by kernel_rfl) rfl #[.agg #[.int .i64 t223, .slice Ao79 t224.length co79], .agg #[.int .i64 t228, .slice Ao89 t229.length co89], .int .i64 a2] rfl (by (try simp only [List.map_toArray, List.map_cons, List.map_nil]); first | done | rfl | (simp only [List.length_drop, List.length_take]; rfl)) ?_; (with_reducible refine (impl_AddRings.calls k t223 _ _ t224 t228 _ _ t229 a2 t233 t234 t237 _ ?side1 ?side2 ?side3 ?side4 A25.out).mono ?_); (case side1 => exact (Kd.R_reads' (rk (Kd.R_far (p := ⟨gb232, 1, none⟩) (Kd.R_far (p := ⟨gb232, 0, none⟩) (Kd.R_types HO226.out BK232.out (by decide)) (fun _ hk => hk.2) (.int .i64 t228)) (fun _ hk => hk.2) (.slice Ao89 t229.length co89)))).2.2); (case side2 => exact (Kd.R_reads' HO226.out).2.1); (case side3 => exact (Kd.R_reads' (rk (Kd.R_far (p := ⟨gb232, 1, none⟩) (Kd.R_far (p := ⟨gb232, 0, none⟩) (Kd.R_types HO231.out BK232.out (by decide)) (fun _ hk => hk.2) (.int .i64 t228)) (fun _ hk => hk.2) (.slice Ao89 t229.length co89)))).2.2); (case side4 => exact (Kd.R_reads' HO231.out).2.1); rintro e w91 ⟨v235, rfl, ho0, hb⟩; refine ⟨_, rfl, ?_⟩; have n0_ := Aside0.mk (Kd.R_elder' (rk (Kd.R_mono (Kd.R_far (p := ⟨gb232, 1, none⟩) (Kd.R_far (p := ⟨gb232, 0, none⟩) (Kd.R_types HO212.out BK232.out (by decide)) (fun _ hk => hk.2) (.int .i64 t228)) (fun _ hk => hk.2) (.slice Ao89 t229.length co89)) (fun _ h_ => h_.1))) (Kd.R_base ho0) hb); have n1_ := Aside0.mk (Kd.R_elder' (rk (Kd.R_mono (Kd.R_far (p := ⟨gb232, 1, none⟩) (Kd.R_far (p := ⟨gb232, 0, none⟩) (Kd.R_types HO216.out BK232.out (by decide)) (fun _ hk => hk.2) (.int .i64 t228)) (fun _ hk => hk.2) (.slice Ao89 t229.length co89)) (fun _ h_ => h_.1))) (Kd.R_base ho0) hb); have n2_ := Aside0.mk (Kd.R_elder' (rk (Kd.R_mono (Kd.R_far (p := ⟨gb232, 1, none⟩) (Kd.R_far (p := ⟨gb232, 0, none⟩) (Kd.R_types HO220.out BK232.out (by decide)) (fun _ hk => hk.2) (.int .i64 t228)) (fun _ hk => hk.2) (.slice Ao89 t229.length co89)) (fun _ h_ => h_.1))) (Kd.R_base ho0) hb); have n3_ := Aside0.mk (Kd.R_elder' (rk (Kd.R_mono (Kd.R_far (p := ⟨gb232, 1, none⟩) (Kd.R_far (p := ⟨gb232, 0, none⟩) (Kd.R_types HO226.out BK232.out (by decide)) (fun _ hk => hk.2) (.int .i64 t228)) (fun _ hk => hk.2) (.slice Ao89 t229.length co89)) (fun _ h_ => h_.1))) (Kd.R_base ho0) hb); have n4_ := Aside0.mk (Kd.R_elder' (rk (Kd.R_mono (Kd.R_far (p := ⟨gb232, 1, none⟩) (Kd.R_far (p := ⟨gb232, 0, none⟩) (Kd.R_types HO231.out BK232.out (by decide)) (fun _ hk => hk.2) (.int .i64 t228)) (fun _ hk => hk.2) (.slice Ao89 t229.length co89)) (fun _ h_ => h_.1))) (Kd.R_base ho0) hb); have n5_ := Aside0.mk (Kd.R_lower (Kd.R_new' (Kd.R_new' (Kd.R_new' (Kd.R_new' (Kd.R_new' ho0 (Kd.R_lt (rk (Kd.R_mono (Kd.R_far (p := ⟨gb232, 1, none⟩) (Kd.R_far (p := ⟨gb232, 0, none⟩) (Kd.R_types HO212.out BK232.out (by decide)) (fun _ hk => hk.2) (.int .i64 t228)) (fun _ hk => hk.2) (.slice Ao89 t229.length co89)) (fun _ h_ => h_.1))))) (Kd.R_lt (rk (Kd.R_mono (Kd.R_far (p := ⟨gb232, 1, none⟩) (Kd.R_far (p := ⟨gb232, 0, none⟩) (Kd.R_types HO216.out BK232.out (by decide)) (fun _ hk => hk.2) (.int .i64 t228)) (fun _ hk => hk.2) (.slice Ao89 t229.length co89)) (fun _ h_ => h_.1))))) (Kd.R_lt (rk (Kd.R_mono (Kd.R_far (p := ⟨gb232, 1, none⟩) (Kd.R_far (p := ⟨gb232, 0, none⟩) (Kd.R_types HO220.out BK232.out (by decide)) (fun _ hk => hk.2) (.int .i64 t228)) (fun _ hk => hk.2) (.slice Ao89 t229.length co89)) (fun _ h_ => h_.1))))) (Kd.R_lt (rk (Kd.R_mono (Kd.R_far (p := ⟨gb232, 1, none⟩) (Kd.R_far (p := ⟨gb232, 0, none⟩) (Kd.R_types HO226.out BK232.out (by decide)) (fun _ hk => hk.2) (.int .i64 t228)) (fun _ hk => hk.2) (.slice Ao89 t229.length co89)) (fun _ h_ => h_.1))))) (Kd.R_lt (rk (Kd.R_mono (Kd.R_far (p := ⟨gb232, 1, none⟩) (Kd.R_far (p := ⟨gb232, 0, none⟩) (Kd.R_types HO231.out BK232.out (by decide)) (fun _ hk => hk.2) (.int .i64 t228)) (fun _ hk => hk.2) (.slice Ao89 t229.length co89)) (fun _ h_ => h_.1))))) (below_size (bks HB.out))); have n6_ := Aside0.mk (blk_below (g := gb205) (o := .cells #[.int .i64 a0_0, .slice A0_1 l0_1.length c0_1] 32 (0, 0)) (by (with_reducible repeat (first | refine blk_drewN ?_ _ | refine blk_drew ?_ | refine blk_alloc ?_ _)); refine blk_far ?_ NB205_232.out _; (with_reducible repeat (first | refine blk_drewN ?_ _ | refine blk_drew ?_ | refine blk_alloc ?_ _)); refine blk_far ?_ NB205_232.out _; (with_reducible repeat (first | refine blk_drewN ?_ _ | refine blk_drew ?_ | refine blk_alloc ?_ _)); exact BK205.out) hb); have n7_ := Aside0.mk (blk_below (g := gb206) (o := .cells #[.int .i64 a1_0, .slice A1_1 l1_1.length c1_1] 32 (0, 0)) (by (with_reducible repeat (first | refine blk_drewN ?_ _ | refine blk_drew ?_ | refine blk_alloc ?_ _)); refine blk_far ?_ NB206_232.out _; (with_reducible repeat (first | refine blk_drewN ?_ _ | refine blk_drew ?_ | refine blk_alloc ?_ _)); refine blk_far ?_ NB206_232.out _; (with_reducible repeat (first | refine blk_drewN ?_ _ | refine blk_drew ?_ | refine blk_alloc ?_ _)); exact BK206.out) hb); have n8_ := Aside0.mk (blk_below (g := gb222) (o := .cells #[.int .i64 t217, .slice Ao69 t218.length co69] 24 (0, 0)) (by (with_reducible repeat (first | refine blk_drewN ?_ _ | refine blk_drew ?_ | refine blk_alloc ?_ _)); refine blk_far ?_ NB222_232.out _; (with_reducible repeat (first | refine blk_drewN ?_ _ | refine blk_drew ?_ | refine blk_alloc ?_ _)); refine blk_far ?_ NB222_232.out _; (with_reducible repeat (first | refine blk_drewN ?_ _ | refine blk_drew ?_ | refine blk_alloc ?_ _)); exact BK222.out) hb); have n9_ := Aside0.mk (blk_below (g := gb227) (o := .cells #[.int .i64 t223, .slice Ao79 t224.length co79] 24 (0, 0)) (by (with_reducible repeat (first | refine blk_drewN ?_ _ | refine blk_drew ?_ | refine blk_alloc ?_ _)); refine blk_far ?_ NB227_232.out _; (with_reducible repeat (first | refine blk_drewN ?_ _ | refine blk_drew ?_ | refine blk_alloc ?_ _)); refine blk_far ?_ NB227_232.out _; (with_reducible repeat (first | refine blk_drewN ?_ _ | refine blk_drew ?_ | refine blk_alloc ?_ _)); exact BK227.out) hb); have n10_ := Aside0.mk (blk_below (g := gb232) (o := .cells #[.int .i64 t228, .slice Ao89 t229.length co89] 24 (0, 0)) (by (with_reducible repeat (first | refine blk_drewN ?_ _ | refine blk_drew ?_ | refine blk_alloc ?_ _)); refine blk_put (cs := #[.int .i64 t228, .slice none 0 0]) ?_ 1 _ rfl; (with_reducible repeat (first | refine blk_drewN ?_ _ | refine blk_drew ?_ | refine blk_alloc ?_ _)); refine blk_put (cs := #[.int .i64 0, .slice none 0 0]) ?_ 0 _ rfl; (with_reducible repeat (first | refine blk_drewN ?_ _ | refine blk_drew ?_ | refine blk_alloc ?_ _)); exact BK232.out) hb); have n11_ := Aside0.mk (below_step (bks HB.out) hb); clear HO212; clear HO216; clear HO220; clear HO226; clear HO231; clear BK205; clear BK206; clear BK222; clear BK227; clear BK232; clear HB; have HO212 := n0_; have HO216 := n1_; have HO220 := n2_; have HO226 := n3_; have HO231 := n4_; have HO236 := n5_; have BK205 := n6_; have BK206 := n7_; have BK222 := n8_; have BK227 := n9_; have BK232 := n10_; have HB := n11_; clear n0_ n1_ n2_ n3_ n4_ n5_ n6_ n7_ n8_ n9_ n10_ n11_; (try clear hb); (try clear hb2); (try clear hk); (try clear hi); (try clear ho0)) | ((with_reducible refine gate_dst (N := 12) rfl ?_); refine box_event ?hg (N := 12) ?hd (cs := #[.int .i64 0, .slice none 0 0]) (t := 24) ?hr ?_; (case hd => rfl); (case hg => rfl); (case hr => first | (go_simp; done) | (go_simp; rfl)); intro gb238 hg w92 hbox hb; have n0_ := Aside0.mk (Kd.R_below (rk HO212.out) hb); have n1_ := Aside0.mk (Kd.R_below (rk HO216.out) hb); have n2_ := Aside0.mk (Kd.R_below (rk HO220.out) hb); have n3_ := Aside0.mk (Kd.R_below (rk HO226.out) hb); have n4_ := Aside0.mk (Kd.R_below (rk HO231.out) hb); have n5_ := Aside0.mk (Kd.R_below (rk HO236.out) hb); have n6_ := Aside0.mk (blk_below (pk BK205.out) hb); have n7_ := Aside0.mk (blk_below (pk BK206.out) hb); have n8_ := Aside0.mk (blk_below (pk BK222.out) hb); have n9_ := Aside0.mk (blk_below (pk BK227.out) hb); have n10_ := Aside0.mk (blk_below (pk BK232.out) hb); have n11_ := Aside0.mk (below_step (bks HB.out) hb); have n12_ := Aside0.mk (hbox); have n13_ := Aside0.mk ((by rw [hg]; exact (below_size (bks HB.out)) : w.heap.size ≤ gb238)); have n14_ := Aside0.mk ((by rw [hg]; exact (below_size (bks HB.out)) : w.heap.size ≤ gb238)); have n15_ := Aside0.mk ((by rw [hg]; exact Nat.ne_of_lt (blk_lt (g := gb205) (o := .cells #[.int .i64 a0_0, .slice A0_1 l0_1.length c0_1] 32 (0, 0)) (pk BK205.out)) : gb205 ≠ gb238)); have n16_ := Aside0.mk ((by rw [hg]; exact Nat.ne_of_gt (blk_lt (g := gb205) (o := .cells #[.int .i64 a0_0, .slice A0_1 l0_1.length c0_1] 32 (0, 0)) (pk BK205.out)) : gb238 ≠ gb205)); have n17_ := Aside0.mk ((by rw [hg]; exact Nat.ne_of_lt (blk_lt (g := gb206) (o := .cells #[.int .i64 a1_0, .slice A1_1 l1_1.length c1_1] 32 (0, 0)) (pk BK206.out)) : gb206 ≠ gb238)); have n18_ := Aside0.mk ((by rw [hg]; exact Nat.ne_of_gt (blk_lt (g := gb206) (o := .cells #[.int .i64 a1_0, .slice A1_1 l1_1.length c1_1] 32 (0, 0)) (pk BK206.out)) : gb238 ≠ gb206)); have n19_ := Aside0.mk ((by rw [hg]; exact Nat.ne_of_lt (blk_lt (g := gb222) (o := .cells #[.int .i64 t217, .slice Ao69 t218.length co69] 24 (0, 0)) (pk BK222.out)) : gb222 ≠ gb238)); have n20_ := Aside0.mk ((by rw [hg]; exact Nat.ne_of_gt (blk_lt (g := gb222) (o := .cells #[.int .i64 t217, .slice Ao69 t218.length co69] 24 (0, 0)) (pk BK222.out)) : gb238 ≠ gb222)); have n21_ := Aside0.mk ((by rw [hg]; exact Nat.ne_of_lt (blk_lt (g := gb227) (o := .cells #[.int .i64 t223, .slice Ao79 t224.length co79] 24 (0, 0)) (pk BK227.out)) : gb227 ≠ gb238)); have n22_ := Aside0.mk ((by rw [hg]; exact Nat.ne_of_gt (blk_lt (g := gb227) (o := .cells #[.int .i64 t223, .slice Ao79 t224.length co79] 24 (0, 0)) (pk BK227.out)) : gb238 ≠ gb227)); have n23_ := Aside0.mk ((by rw [hg]; exact Nat.ne_of_lt (blk_lt (g := gb232) (o := .cells #[.int .i64 t228, .slice Ao89 t229.length co89] 24 (0, 0)) (pk BK232.out)) : gb232 ≠ gb238)); have n24_ := Aside0.mk ((by rw [hg]; exact Nat.ne_of_gt (blk_lt (g := gb232) (o := .cells #[.int .i64 t228, .slice Ao89 t229.length co89] 24 (0, 0)) (pk BK232.out)) : gb238 ≠ gb232)); clear HO212; clear HO216; clear HO220; clear HO226; clear HO231; clear HO236; clear BK205; clear BK206; clear BK222; clear BK227; clear BK232; clear HB; have HO212 := n0_; have HO216 := n1_; have HO220 := n2_; have HO226 := n3_; have HO231 := n4_; have HO236 := n5_; have BK205 := n6_; have BK206 := n7_; have BK222 := n8_; have BK227 := n9_; have BK232 := n10_; have HB := n11_; have BK238 := n12_; have GW238 := n13_; have GE238 := n14_; have NB205_238 := n15_; have NB238_205 := n16_; have NB206_238 := n17_; have NB238_206 := n18_; have NB222_238 := n19_; have NB238_222 := n20_; have NB227_238 := n21_; have NB238_227 := n22_; have NB232_238 := n23_; have NB238_232 := n24_; clear n0_ n1_ n2_ n3_ n4_ n5_ n6_ n7_ n8_ n9_ n10_ n11_ n12_ n13_ n14_ n15_ n16_ n17_ n18_ n19_ n20_ n21_ n22_ n23_ n24_; clear hb hbox hg; have hnb93 := NB238_205.out; have hnc93 := NB205_238.out; have hnb94 := NB238_206.out; have hnc94 := NB206_238.out; have hnb95 := NB238_222.out; have hnc95 := NB222_238.out; have hnb96 := NB238_227.out; have hnc96 := NB227_238.out; have hnb97 := NB238_232.out; have hnc97 := NB232_238.out; have hcz98_0 : w92.cell? ⟨gb238, 0, none⟩ = some (.int .i64 0) := (blk_cell BK238.out 0).trans rfl; have hcz98_1 : w92.cell? ⟨gb238, 1, none⟩ = some (.slice none 0 0) := (blk_cell BK238.out 1).trans rfl; have hfz98_0 := blk_frozen BK238.out 0; have hfz98_1 := blk_frozen BK238.out 1; obtain ⟨Ao99, co99, eo99⟩ := Kd.R_slice HO236.out; subst eo99; have hcz100_0 : w92.cell? ⟨gb222, 0, none⟩ = some (.int .i64 t217) := (blk_cell BK222.out 0).trans rfl; have hcz100_1 : w92.cell? ⟨gb222, 1, none⟩ = some (.slice Ao69 t218.length co69) := (blk_cell BK222.out 1).trans rfl; have hfz100_0 := blk_frozen BK222.out 0; have hfz100_1 := blk_frozen BK222.out 1) | ((with_reducible refine gate_callee (f := 14) rfl ?_); refine goesL_ (some 51) rfl rfl Try.func14 (by kernel_rfl) rfl #[.agg #[.int .i64 t233, .slice Ao99 t234.length co99], .agg #[.int .i64 t217, .slice Ao69 t218.length co69]] rfl (by (try simp only [List.map_toArray, List.map_cons, List.map_nil]); first | done | rfl | (simp only [List.length_drop, List.length_take]; rfl)) ?_; (with_reducible refine (laws_eqRing.calls k t233 _ _ t234 t217 _ _ t218 true _ ?side1 ?side2 ?side3 ?side4 A26.out).mono ?_); (case side1 => exact (Kd.R_reads' (rk (Kd.R_far (p := ⟨gb238, 1, none⟩) (Kd.R_far (p := ⟨gb238, 0, none⟩) (Kd.R_types HO236.out BK238.out (by decide)) (fun _ hk => hk.2) (.int .i64 t233)) (fun _ hk => hk.2) (.slice Ao99 t234.length co99)))).2.2); (case side2 => exact (Kd.R_reads' HO236.out).2.1); (case side3 => exact (Kd.R_reads' (rk (Kd.R_far (p := ⟨gb238, 1, none⟩) (Kd.R_far (p := ⟨gb238, 0, none⟩) (Kd.R_types HO220.out BK238.out (by decide)) (fun _ hk => hk.2) (.int .i64 t233)) (fun _ hk => hk.2) (.slice Ao99 t234.length co99)))).2.2); (case side4 => exact (Kd.R_reads' HO220.out).2.1); rintro e w101 ⟨rfl, hb⟩; refine ⟨_, rfl, ?_⟩; have n0_ := Aside0.mk (Kd.R_below (rk (Kd.R_mono (Kd.R_far (p := ⟨gb238, 1, none⟩) (Kd.R_far (p := ⟨gb238, 0, none⟩) (Kd.R_types HO212.out BK238.out (by decide)) (fun _ hk => hk.2) (.int .i64 t233)) (fun _ hk => hk.2) (.slice Ao99 t234.length co99)) (fun _ h_ => h_.1))) hb); have n1_ := Aside0.mk (Kd.R_below (rk (Kd.R_mono (Kd.R_far (p := ⟨gb238, 1, none⟩) (Kd.R_far (p := ⟨gb238, 0, none⟩) (Kd.R_types HO216.out BK238.out (by decide)) (fun _ hk => hk.2) (.int .i64 t233)) (fun _ hk => hk.2) (.slice Ao99 t234.length co99)) (fun _ h_ => h_.1))) hb); have n2_ := Aside0.mk (Kd.R_below (rk (Kd.R_mono (Kd.R_far (p := ⟨gb238, 1, none⟩) (Kd.R_far (p := ⟨gb238, 0, none⟩) (Kd.R_types HO220.out BK238.out (by decide)) (fun _ hk => hk.2) (.int .i64 t233)) (fun _ hk => hk.2) (.slice Ao99 t234.length co99)) (fun _ h_ => h_.1))) hb); have n3_ := Aside0.mk (Kd.R_below (rk (Kd.R_mono (Kd.R_far (p := ⟨gb238, 1, none⟩) (Kd.R_far (p := ⟨gb238, 0, none⟩) (Kd.R_types HO226.out BK238.out (by decide)) (fun _ hk => hk.2) (.int .i64 t233)) (fun _ hk => hk.2) (.slice Ao99 t234.length co99)) (fun _ h_ => h_.1))) hb); have n4_ := Aside0.mk (Kd.R_below (rk (Kd.R_mono (Kd.R_far (p := ⟨gb238, 1, none⟩) (Kd.R_far (p := ⟨gb238, 0, none⟩) (Kd.R_types HO231.out BK238.out (by decide)) (fun _ hk => hk.2) (.int .i64 t233)) (fun _ hk => hk.2) (.slice Ao99 t234.length co99)) (fun _ h_ => h_.1))) hb); have n5_ := Aside0.mk (Kd.R_below (rk (Kd.R_mono (Kd.R_far (p := ⟨gb238, 1, none⟩) (Kd.R_far (p := ⟨gb238, 0, none⟩) (Kd.R_types HO236.out BK238.out (by decide)) (fun _ hk => hk.2) (.int .i64 t233)) (fun _ hk => hk.2) (.slice Ao99 t234.length co99)) (fun _ h_ => h_.1))) hb); have n6_ := Aside0.mk (blk_below (g := gb205) (o := .cells #[.int .i64 a0_0, .slice A0_1 l0_1.length c0_1] 32 (0, 0)) (by (with_reducible repeat (first | refine blk_drewN ?_ _ | refine blk_drew ?_ | refine blk_alloc ?_ _)); refine blk_far ?_ NB205_238.out _; (with_reducible repeat (first | refine blk_drewN ?_ _ | refine blk_drew ?_ | refine blk_alloc ?_ _)); refine blk_far ?_ NB205_238.out _; (with_reducible repeat (first | refine blk_drewN ?_ _ | refine blk_drew ?_ | refine blk_alloc ?_ _)); exact BK205.out) hb); have n7_ := Aside0.mk (blk_below (g := gb206) (o := .cells #[.int .i64 a1_0, .slice A1_1 l1_1.length c1_1] 32 (0, 0)) (by (with_reducible repeat (first | refine blk_drewN ?_ _ | refine blk_drew ?_ | refine blk_alloc ?_ _)); refine blk_far ?_ NB206_238.out _; (with_reducible repeat (first | refine blk_drewN ?_ _ | refine blk_drew ?_ | refine blk_alloc ?_ _)); refine blk_far ?_ NB206_238.out _; (with_reducible repeat (first | refine blk_drewN ?_ _ | refine blk_drew ?_ | refine blk_alloc ?_ _)); exact BK206.out) hb); have n8_ := Aside0.mk (blk_below (g := gb222) (o := .cells #[.int .i64 t217, .slice Ao69 t218.length co69] 24 (0, 0)) (by (with_reducible repeat (first | refine blk_drewN ?_ _ | refine blk_drew ?_ | refine blk_alloc ?_ _)); refine blk_far ?_ NB222_238.out _; (with_reducible repeat (first | refine blk_drewN ?_ _ | refine blk_drew ?_ | refine blk_alloc ?_ _)); refine blk_far ?_ NB222_238.out _; (with_reducible repeat (first | refine blk_drewN ?_ _ | refine blk_drew ?_ | refine blk_alloc ?_ _)); exact BK222.out) hb); have n9_ := Aside0.mk (blk_below (g := gb227) (o := .cells #[.int .i64 t223, .slice Ao79 t224.length co79] 24 (0, 0)) (by (with_reducible repeat (first | refine blk_drewN ?_ _ | refine blk_drew ?_ | refine blk_alloc ?_ _)); refine blk_far ?_ NB227_238.out _; (with_reducible repeat (first | refine blk_drewN ?_ _ | refine blk_drew ?_ | refine blk_alloc ?_ _)); refine blk_far ?_ NB227_238.out _; (with_reducible repeat (first | refine blk_drewN ?_ _ | refine blk_drew ?_ | refine blk_alloc ?_ _)); exact BK227.out) hb); have n10_ := Aside0.mk (blk_below (g := gb232) (o := .cells #[.int .i64 t228, .slice Ao89 t229.length co89] 24 (0, 0)) (by (with_reducible repeat (first | refine blk_drewN ?_ _ | refine blk_drew ?_ | refine blk_alloc ?_ _)); refine blk_far ?_ NB232_238.out _; (with_reducible repeat (first | refine blk_drewN ?_ _ | refine blk_drew ?_ | refine blk_alloc ?_ _)); refine blk_far ?_ NB232_238.out _; (with_reducible repeat (first | refine blk_drewN ?_ _ | refine blk_drew ?_ | refine blk_alloc ?_ _)); exact BK232.out) hb); have n11_ := Aside0.mk (blk_below (g := gb238) (o := .cells #[.int .i64 t233, .slice Ao99 t234.length co99] 24 (0, 0)) (by (with_reducible repeat (first | refine blk_drewN ?_ _ | refine blk_drew ?_ | refine blk_alloc ?_ _)); refine blk_put (cs := #[.int .i64 t233, .slice none 0 0]) ?_ 1 _ rfl; (with_reducible repeat (first | refine blk_drewN ?_ _ | refine blk_drew ?_ | refine blk_alloc ?_ _)); refine blk_put (cs := #[.int .i64 0, .slice none 0 0]) ?_ 0 _ rfl; (with_reducible repeat (first | refine blk_drewN ?_ _ | refine blk_drew ?_ | refine blk_alloc ?_ _)); exact BK238.out) hb); have n12_ := Aside0.mk (below_step (bks HB.out) hb); clear HO212; clear HO216; clear HO220; clear HO226; clear HO231; clear HO236; clear BK205; clear BK206; clear BK222; clear BK227; clear BK232; clear BK238; clear HB; have HO212 := n0_; have HO216 := n1_; have HO220 := n2_; have HO226 := n3_; have HO231 := n4_; have HO236 := n5_; have BK205 := n6_; have BK206 := n7_; have BK222 := n8_; have BK227 := n9_; have BK232 := n10_; have BK238 := n11_; have HB := n12_; clear n0_ n1_ n2_ n3_ n4_ n5_ n6_ n7_ n8_ n9_ n10_ n11_ n12_; (try clear hb); (try clear hb2); (try clear hk); (try clear hi)))
      have n0_ := Aside0.mk (Kd.R_drew HO212.out)
      have n1_ := Aside0.mk (Kd.R_drew HO216.out)
      have n2_ := Aside0.mk (Kd.R_drew HO220.out)
      have n3_ := Aside0.mk (Kd.R_drew HO226.out)
      have n4_ := Aside0.mk (Kd.R_drew HO231.out)
      have n5_ := Aside0.mk (Kd.R_drew HO236.out)
      have n6_ := Aside0.mk (blk_drew BK205.out)
      have n7_ := Aside0.mk (blk_drew BK206.out)
      have n8_ := Aside0.mk (blk_drew BK222.out)
      have n9_ := Aside0.mk (blk_drew BK227.out)
      have n10_ := Aside0.mk (blk_drew BK232.out)
      have n11_ := Aside0.mk (blk_drew BK238.out)
      have n12_ := Aside0.mk (below_drew1 HB.out)
      clear HO212 HO216 HO220 HO226 HO231 HO236 BK205 BK206 BK222 BK227 BK232 BK238 HB
      have HO212 := n0_
      have HO216 := n1_
      have HO220 := n2_
      have HO226 := n3_
      have HO231 := n4_
      have HO236 := n5_
      have BK205 := n6_
      have BK206 := n7_
      have BK222 := n8_
      have BK227 := n9_
      have BK232 := n10_
      have BK238 := n11_
      have HB := n12_
      clear n0_ n1_ n2_ n3_ n4_ n5_ n6_ n7_ n8_ n9_ n10_ n11_ n12_
      refine start_ (n := 5) (S := fun w' => w'.cell? ⟨gb227, 0, none⟩ = some (.int .i64 t223) ∧ w'.cell? ⟨gb227, 1, none⟩ = some (.slice Ao79 t224.length co79) ∧ w'.cell? ⟨gb205, 0, none⟩ = some (.int .i64 a0_0) ∧ w'.cell? ⟨gb205, 1, none⟩ = some (.slice A0_1 l0_1.length c0_1)) (ds := []) #[false, false, false, false, false] (by kernel_rfl) rfl rfl ⟨(blk_cell BK227.out 0).trans rfl, (blk_cell BK227.out 1).trans rfl, (blk_cell BK205.out 0).trans rfl, (blk_cell BK205.out 1).trans rfl⟩ (fun hHeld => ?_)
      generalize w101.drew = w102 at HO212 HO216 HO220 HO226 HO231 HO236 BK205 BK206 BK222 BK227 BK232 BK238 HB hHeld ⊢
      refine take_ (i := 0) (N := some 58) (v := ?_) (a' := ?_) #[true, false, false, false, false] rfl rfl (by kernel_rfl) (fun _ _ _ h => h) (Or.inl ⟨by rfl, ?_⟩) hHeld ?_ ?_
      rotate_left
      · rintro w' ⟨s0, s1, s2, s3⟩
        go_simp
        with_reducible rfl
      rotate_left
      · simp only [Act.put, List.setIfInBounds_toArray, List.set_cons_zero, List.set_cons_succ, i64_w, i32_w]
        rfl
      refine take_ (i := 1) (N := some 59) (v := ?_) (a' := ?_) #[true, true, false, false, false] rfl rfl (by kernel_rfl) (fun _ _ _ h => h) (Or.inl ⟨by rfl, ?_⟩) hHeld ?_ ?_
      rotate_left
      · rintro w' ⟨s0, s1, s2, s3⟩
        go_simp
        with_reducible rfl
      rotate_left
      · simp only [Act.put, List.setIfInBounds_toArray, List.set_cons_zero, List.set_cons_succ, i64_w, i32_w]
        rfl
      refine one_ (i := 2) (N := some 60) #[true, true, true, false, false] rfl rfl (by kernel_rfl) (by decide) (fun K hK => ?_)
      refine goes_ Try.func21 (by kernel_rfl) rfl #[.agg #[.int .i64 a0_0, .slice A0_1 l0_1.length c0_1]] (by rfl) rfl rfl (by (try simp only [List.map_toArray, List.map_cons, List.map_nil]); first | done | rfl | (simp only [List.length_drop, List.length_take]; rfl)) ?_
      with_reducible refine (laws_toRing.calls k a0_0 _ _ l0_1 t240 t241 _ ?side1 ?side2 A29.out).mono ?_
      (case side1 => repeat (first | exact (Kd.C_below HR0_1.out HB.out) | (with_reducible refine Kd.C_alloc ?_ _) | (with_reducible refine Kd.C_drewN ?_ _) | (with_reducible refine Kd.C_drew ?_)))
      (case side2 => exact HC0_1.out)
      rintro e w103 ⟨v242, rfl, ho0, hb⟩
      refine ⟨_, rfl, ?_⟩
      have n0_ := Aside0.mk (Kd.R_elder' (rk HO212.out) (Kd.R_base ho0) hb)
      have n1_ := Aside0.mk (Kd.R_elder' (rk HO216.out) (Kd.R_base ho0) hb)
      have n2_ := Aside0.mk (Kd.R_elder' (rk HO220.out) (Kd.R_base ho0) hb)
      have n3_ := Aside0.mk (Kd.R_elder' (rk HO226.out) (Kd.R_base ho0) hb)
      have n4_ := Aside0.mk (Kd.R_elder' (rk HO231.out) (Kd.R_base ho0) hb)
      have n5_ := Aside0.mk (Kd.R_elder' (rk HO236.out) (Kd.R_base ho0) hb)
      have n6_ := Aside0.mk (Kd.R_lower (Kd.R_new' (Kd.R_new' (Kd.R_new' (Kd.R_new' (Kd.R_new' (Kd.R_new' ho0 (Kd.R_lt (rk HO212.out))) (Kd.R_lt (rk HO216.out))) (Kd.R_lt (rk HO220.out))) (Kd.R_lt (rk HO226.out))) (Kd.R_lt (rk HO231.out))) (Kd.R_lt (rk HO236.out))) (below_size (bks HB.out)))
      have n7_ := Aside0.mk (blk_below (pk BK205.out) hb)
      have n8_ := Aside0.mk (blk_below (pk BK206.out) hb)
      have n9_ := Aside0.mk (blk_below (pk BK222.out) hb)
      have n10_ := Aside0.mk (blk_below (pk BK227.out) hb)
      have n11_ := Aside0.mk (blk_below (pk BK232.out) hb)
      have n12_ := Aside0.mk (blk_below (pk BK238.out) hb)
      have n13_ := Aside0.mk (below_step (bks HB.out) hb)
      clear HO212 HO216 HO220 HO226 HO231 HO236 BK205 BK206 BK222 BK227 BK232 BK238 HB
      have HO212 := n0_
      have HO216 := n1_
      have HO220 := n2_
      have HO226 := n3_
      have HO231 := n4_
      have HO236 := n5_
      have HO243 := n6_
      have BK205 := n7_
      have BK206 := n8_
      have BK222 := n9_
      have BK227 := n10_
      have BK232 := n11_
      have BK238 := n12_
      have HB := n13_
      clear n0_ n1_ n2_ n3_ n4_ n5_ n6_ n7_ n8_ n9_ n10_ n11_ n12_ n13_
      (try clear hb)
      (try clear hb2)
      (try clear hk)
      (try clear hi)
      (try clear ho0)
      obtain ⟨Ao104, co104, eo104⟩ := Kd.R_slice HO243.out
      (first | subst eo104 | (injection eo104 with f1_ f2_ f3_; have f4_ := f1_.symm; have f5_ := f3_.symm; clear f1_ f2_ f3_; subst f4_; subst f5_))
      refine hK.out _ _ ⟨(blk_cell BK227.out 0).trans rfl, (blk_cell BK227.out 1).trans rfl, (blk_cell BK205.out 0).trans rfl, (blk_cell BK205.out 1).trans rfl⟩ (fun hHeld => ?_)
      clear hK K
      refine norm_ (a' := ?_) ?_ ?_
      rotate_left
      · show Act.put _ (some 60) _ = _
        simp only [Act.put, List.setIfInBounds_toArray, List.set_cons_zero, List.set_cons_succ, i64_w, i32_w]
        rfl
      refine one_ (i := 3) (N := some 61) #[true, true, true, true, false] rfl rfl (by kernel_rfl) (by decide) (fun K hK => ?_)
      refine goes_ Try.func14 (by kernel_rfl) rfl #[.agg #[.int .i64 t223, .slice Ao79 t224.length co79], .agg #[.int .i64 t240, .slice Ao104 t241.length co104]] (by rfl) rfl rfl (by (try simp only [List.map_toArray, List.map_cons, List.map_nil]); first | done | rfl | (simp only [List.length_drop, List.length_take]; rfl)) ?_
      with_reducible refine (laws_eqRing.calls k t223 _ _ t224 t240 _ _ t241 true _ ?side1 ?side2 ?side3 ?side4 A30.out).mono ?_
      (case side1 => repeat (first | exact (Kd.R_reads' HO226.out).2.2 | (with_reducible refine Kd.C_alloc ?_ _) | (with_reducible refine Kd.C_drewN ?_ _) | (with_reducible refine Kd.C_drew ?_)))
      (case side2 => exact (Kd.R_reads' HO226.out).2.1)
      (case side3 => repeat (first | exact (Kd.R_reads' HO243.out).2.2 | (with_reducible refine Kd.C_alloc ?_ _) | (with_reducible refine Kd.C_drewN ?_ _) | (with_reducible refine Kd.C_drew ?_)))
      (case side4 => exact (Kd.R_reads' HO243.out).2.1)
      rintro e w105 ⟨rfl, hb⟩
      refine ⟨_, rfl, ?_⟩
      have n0_ := Aside0.mk (Kd.R_below (rk HO212.out) hb)
      have n1_ := Aside0.mk (Kd.R_below (rk HO216.out) hb)
      have n2_ := Aside0.mk (Kd.R_below (rk HO220.out) hb)
      have n3_ := Aside0.mk (Kd.R_below (rk HO226.out) hb)
      have n4_ := Aside0.mk (Kd.R_below (rk HO231.out) hb)
      have n5_ := Aside0.mk (Kd.R_below (rk HO236.out) hb)
      have n6_ := Aside0.mk (Kd.R_below (rk HO243.out) hb)
      have n7_ := Aside0.mk (blk_below (pk BK205.out) hb)
      have n8_ := Aside0.mk (blk_below (pk BK206.out) hb)
      have n9_ := Aside0.mk (blk_below (pk BK222.out) hb)
      have n10_ := Aside0.mk (blk_below (pk BK227.out) hb)
      have n11_ := Aside0.mk (blk_below (pk BK232.out) hb)
      have n12_ := Aside0.mk (blk_below (pk BK238.out) hb)
      have n13_ := Aside0.mk (below_step (bks HB.out) hb)
      clear HO212 HO216 HO220 HO226 HO231 HO236 HO243 BK205 BK206 BK222 BK227 BK232 BK238 HB
      have HO212 := n0_
      have HO216 := n1_
      have HO220 := n2_
      have HO226 := n3_
      have HO231 := n4_
      have HO236 := n5_
      have HO243 := n6_
      have BK205 := n7_
      have BK206 := n8_
      have BK222 := n9_
      have BK227 := n10_
      have BK232 := n11_
      have BK238 := n12_
      have HB := n13_
      clear n0_ n1_ n2_ n3_ n4_ n5_ n6_ n7_ n8_ n9_ n10_ n11_ n12_ n13_
      (try clear hb)
      (try clear hb2)
      (try clear hk)
      (try clear hi)
      refine hK.out _ _ ⟨(blk_cell BK227.out 0).trans rfl, (blk_cell BK227.out 1).trans rfl, (blk_cell BK205.out 0).trans rfl, (blk_cell BK205.out 1).trans rfl⟩ (fun hHeld => ?_)
      clear hK K
      refine norm_ (a' := ?_) ?_ ?_
      rotate_left
      · show Act.put _ (some 61) _ = _
        simp only [Act.put, List.setIfInBounds_toArray, List.set_cons_zero, List.set_cons_succ, i64_w, i32_w]
        rfl
      refine pure_ (i := 4) (N := some 62) (v := ?_) (a' := ?_) #[true, true, true, true, true] rfl rfl (by kernel_rfl) (fun _ _ _ h => h) (Or.inl ⟨by rfl, ?_⟩) ?_ ?_
      rotate_left
      · intro w'
        go_simp
        with_reducible rfl
      rotate_left
      · simp only [Act.put, List.setIfInBounds_toArray, List.set_cons_zero, List.set_cons_succ, i64_w, i32_w]
        rfl
      refine done_ (by kernel_rfl) ?_
      try go_wp2
      have n0_ := Aside0.mk (Kd.R_drew HO212.out)
      have n1_ := Aside0.mk (Kd.R_drew HO216.out)
      have n2_ := Aside0.mk (Kd.R_drew HO220.out)
      have n3_ := Aside0.mk (Kd.R_drew HO226.out)
      have n4_ := Aside0.mk (Kd.R_drew HO231.out)
      have n5_ := Aside0.mk (Kd.R_drew HO236.out)
      have n6_ := Aside0.mk (Kd.R_drew HO243.out)
      have n7_ := Aside0.mk (blk_drew BK205.out)
      have n8_ := Aside0.mk (blk_drew BK206.out)
      have n9_ := Aside0.mk (blk_drew BK222.out)
      have n10_ := Aside0.mk (blk_drew BK227.out)
      have n11_ := Aside0.mk (blk_drew BK232.out)
      have n12_ := Aside0.mk (blk_drew BK238.out)
      have n13_ := Aside0.mk (below_drew1 HB.out)
      clear HO212 HO216 HO220 HO226 HO231 HO236 HO243 BK205 BK206 BK222 BK227 BK232 BK238 HB
      have HO212 := n0_
      have HO216 := n1_
      have HO220 := n2_
      have HO226 := n3_
      have HO231 := n4_
      have HO236 := n5_
      have HO243 := n6_
      have BK205 := n7_
      have BK206 := n8_
      have BK222 := n9_
      have BK227 := n10_
      have BK232 := n11_
      have BK238 := n12_
      have HB := n13_
      clear n0_ n1_ n2_ n3_ n4_ n5_ n6_ n7_ n8_ n9_ n10_ n11_ n12_ n13_
      refine start_ (n := 5) (S := fun w' => w'.cell? ⟨gb232, 0, none⟩ = some (.int .i64 t228) ∧ w'.cell? ⟨gb232, 1, none⟩ = some (.slice Ao89 t229.length co89) ∧ w'.cell? ⟨gb206, 0, none⟩ = some (.int .i64 a1_0) ∧ w'.cell? ⟨gb206, 1, none⟩ = some (.slice A1_1 l1_1.length c1_1)) (ds := []) #[false, false, false, false, false] (by kernel_rfl) rfl rfl ⟨(blk_cell BK232.out 0).trans rfl, (blk_cell BK232.out 1).trans rfl, (blk_cell BK206.out 0).trans rfl, (blk_cell BK206.out 1).trans rfl⟩ (fun hHeld => ?_)
      generalize w105.drew = w106 at HO212 HO216 HO220 HO226 HO231 HO236 HO243 BK205 BK206 BK222 BK227 BK232 BK238 HB hHeld ⊢
      refine take_ (i := 0) (N := some 63) (v := ?_) (a' := ?_) #[true, false, false, false, false] rfl rfl (by kernel_rfl) (fun _ _ _ h => h) (Or.inl ⟨by rfl, ?_⟩) hHeld ?_ ?_
      rotate_left
      · rintro w' ⟨s0, s1, s2, s3⟩
        go_simp
        with_reducible rfl
      rotate_left
      · simp only [Act.put, List.setIfInBounds_toArray, List.set_cons_zero, List.set_cons_succ, i64_w, i32_w]
        rfl
      refine take_ (i := 1) (N := some 64) (v := ?_) (a' := ?_) #[true, true, false, false, false] rfl rfl (by kernel_rfl) (fun _ _ _ h => h) (Or.inl ⟨by rfl, ?_⟩) hHeld ?_ ?_
      rotate_left
      · rintro w' ⟨s0, s1, s2, s3⟩
        go_simp
        with_reducible rfl
      rotate_left
      · simp only [Act.put, List.setIfInBounds_toArray, List.set_cons_zero, List.set_cons_succ, i64_w, i32_w]
        rfl
      refine one_ (i := 2) (N := some 65) #[true, true, true, false, false] rfl rfl (by kernel_rfl) (by decide) (fun K hK => ?_)
      refine goes_ Try.func21 (by kernel_rfl) rfl #[.agg #[.int .i64 a1_0, .slice A1_1 l1_1.length c1_1]] (by rfl) rfl rfl (by (try simp only [List.map_toArray, List.map_cons, List.map_nil]); first | done | rfl | (simp only [List.length_drop, List.length_take]; rfl)) ?_
      with_reducible refine (laws_toRing.calls k a1_0 _ _ l1_1 t245 t246 _ ?side1 ?side2 A32.out).mono ?_
      (case side1 => repeat (first | exact (Kd.C_below HR1_1.out HB.out) | (with_reducible refine Kd.C_alloc ?_ _) | (with_reducible refine Kd.C_drewN ?_ _) | (with_reducible refine Kd.C_drew ?_)))
      (case side2 => exact HC1_1.out)
      rintro e w107 ⟨v247, rfl, ho0, hb⟩
      refine ⟨_, rfl, ?_⟩
      have n0_ := Aside0.mk (Kd.R_elder' (rk HO212.out) (Kd.R_base ho0) hb)
      have n1_ := Aside0.mk (Kd.R_elder' (rk HO216.out) (Kd.R_base ho0) hb)
      have n2_ := Aside0.mk (Kd.R_elder' (rk HO220.out) (Kd.R_base ho0) hb)
      have n3_ := Aside0.mk (Kd.R_elder' (rk HO226.out) (Kd.R_base ho0) hb)
      have n4_ := Aside0.mk (Kd.R_elder' (rk HO231.out) (Kd.R_base ho0) hb)
      have n5_ := Aside0.mk (Kd.R_elder' (rk HO236.out) (Kd.R_base ho0) hb)
      have n6_ := Aside0.mk (Kd.R_elder' (rk HO243.out) (Kd.R_base ho0) hb)
      have n7_ := Aside0.mk (Kd.R_lower (Kd.R_new' (Kd.R_new' (Kd.R_new' (Kd.R_new' (Kd.R_new' (Kd.R_new' (Kd.R_new' ho0 (Kd.R_lt (rk HO212.out))) (Kd.R_lt (rk HO216.out))) (Kd.R_lt (rk HO220.out))) (Kd.R_lt (rk HO226.out))) (Kd.R_lt (rk HO231.out))) (Kd.R_lt (rk HO236.out))) (Kd.R_lt (rk HO243.out))) (below_size (bks HB.out)))
      have n8_ := Aside0.mk (blk_below (pk BK205.out) hb)
      have n9_ := Aside0.mk (blk_below (pk BK206.out) hb)
      have n10_ := Aside0.mk (blk_below (pk BK222.out) hb)
      have n11_ := Aside0.mk (blk_below (pk BK227.out) hb)
      have n12_ := Aside0.mk (blk_below (pk BK232.out) hb)
      have n13_ := Aside0.mk (blk_below (pk BK238.out) hb)
      have n14_ := Aside0.mk (below_step (bks HB.out) hb)
      clear HO212 HO216 HO220 HO226 HO231 HO236 HO243 BK205 BK206 BK222 BK227 BK232 BK238 HB
      have HO212 := n0_
      have HO216 := n1_
      have HO220 := n2_
      have HO226 := n3_
      have HO231 := n4_
      have HO236 := n5_
      have HO243 := n6_
      have HO248 := n7_
      have BK205 := n8_
      have BK206 := n9_
      have BK222 := n10_
      have BK227 := n11_
      have BK232 := n12_
      have BK238 := n13_
      have HB := n14_
      clear n0_ n1_ n2_ n3_ n4_ n5_ n6_ n7_ n8_ n9_ n10_ n11_ n12_ n13_ n14_
      (try clear hb)
      (try clear hb2)
      (try clear hk)
      (try clear hi)
      (try clear ho0)
      obtain ⟨Ao108, co108, eo108⟩ := Kd.R_slice HO248.out
      (first | subst eo108 | (injection eo108 with f1_ f2_ f3_; have f4_ := f1_.symm; have f5_ := f3_.symm; clear f1_ f2_ f3_; subst f4_; subst f5_))
      refine hK.out _ _ ⟨(blk_cell BK232.out 0).trans rfl, (blk_cell BK232.out 1).trans rfl, (blk_cell BK206.out 0).trans rfl, (blk_cell BK206.out 1).trans rfl⟩ (fun hHeld => ?_)
      clear hK K
      refine norm_ (a' := ?_) ?_ ?_
      rotate_left
      · show Act.put _ (some 65) _ = _
        simp only [Act.put, List.setIfInBounds_toArray, List.set_cons_zero, List.set_cons_succ, i64_w, i32_w]
        rfl
      refine one_ (i := 3) (N := some 66) #[true, true, true, true, false] rfl rfl (by kernel_rfl) (by decide) (fun K hK => ?_)
      refine goes_ Try.func14 (by kernel_rfl) rfl #[.agg #[.int .i64 t228, .slice Ao89 t229.length co89], .agg #[.int .i64 t245, .slice Ao108 t246.length co108]] (by rfl) rfl rfl (by (try simp only [List.map_toArray, List.map_cons, List.map_nil]); first | done | rfl | (simp only [List.length_drop, List.length_take]; rfl)) ?_
      with_reducible refine (laws_eqRing.calls k t228 _ _ t229 t245 _ _ t246 true _ ?side1 ?side2 ?side3 ?side4 A33.out).mono ?_
      (case side1 => repeat (first | exact (Kd.R_reads' HO231.out).2.2 | (with_reducible refine Kd.C_alloc ?_ _) | (with_reducible refine Kd.C_drewN ?_ _) | (with_reducible refine Kd.C_drew ?_)))
      (case side2 => exact (Kd.R_reads' HO231.out).2.1)
      (case side3 => repeat (first | exact (Kd.R_reads' HO248.out).2.2 | (with_reducible refine Kd.C_alloc ?_ _) | (with_reducible refine Kd.C_drewN ?_ _) | (with_reducible refine Kd.C_drew ?_)))
      (case side4 => exact (Kd.R_reads' HO248.out).2.1)
      rintro e w109 ⟨rfl, hb⟩
      refine ⟨_, rfl, ?_⟩
      have n0_ := Aside0.mk (Kd.R_below (rk HO212.out) hb)
      have n1_ := Aside0.mk (Kd.R_below (rk HO216.out) hb)
      have n2_ := Aside0.mk (Kd.R_below (rk HO220.out) hb)
      have n3_ := Aside0.mk (Kd.R_below (rk HO226.out) hb)
      have n4_ := Aside0.mk (Kd.R_below (rk HO231.out) hb)
      have n5_ := Aside0.mk (Kd.R_below (rk HO236.out) hb)
      have n6_ := Aside0.mk (Kd.R_below (rk HO243.out) hb)
      have n7_ := Aside0.mk (Kd.R_below (rk HO248.out) hb)
      have n8_ := Aside0.mk (blk_below (pk BK205.out) hb)
      have n9_ := Aside0.mk (blk_below (pk BK206.out) hb)
      have n10_ := Aside0.mk (blk_below (pk BK222.out) hb)
      have n11_ := Aside0.mk (blk_below (pk BK227.out) hb)
      have n12_ := Aside0.mk (blk_below (pk BK232.out) hb)
      have n13_ := Aside0.mk (blk_below (pk BK238.out) hb)
      have n14_ := Aside0.mk (below_step (bks HB.out) hb)
      clear HO212 HO216 HO220 HO226 HO231 HO236 HO243 HO248 BK205 BK206 BK222 BK227 BK232 BK238 HB
      have HO212 := n0_
      have HO216 := n1_
      have HO220 := n2_
      have HO226 := n3_
      have HO231 := n4_
      have HO236 := n5_
      have HO243 := n6_
      have HO248 := n7_
      have BK205 := n8_
      have BK206 := n9_
      have BK222 := n10_
      have BK227 := n11_
      have BK232 := n12_
      have BK238 := n13_
      have HB := n14_
      clear n0_ n1_ n2_ n3_ n4_ n5_ n6_ n7_ n8_ n9_ n10_ n11_ n12_ n13_ n14_
      (try clear hb)
      (try clear hb2)
      (try clear hk)
      (try clear hi)
      refine hK.out _ _ ⟨(blk_cell BK232.out 0).trans rfl, (blk_cell BK232.out 1).trans rfl, (blk_cell BK206.out 0).trans rfl, (blk_cell BK206.out 1).trans rfl⟩ (fun hHeld => ?_)
      clear hK K
      refine norm_ (a' := ?_) ?_ ?_
      rotate_left
      · show Act.put _ (some 66) _ = _
        simp only [Act.put, List.setIfInBounds_toArray, List.set_cons_zero, List.set_cons_succ, i64_w, i32_w]
        rfl
      refine pure_ (i := 4) (N := some 67) (v := ?_) (a' := ?_) #[true, true, true, true, true] rfl rfl (by kernel_rfl) (fun _ _ _ h => h) (Or.inl ⟨by rfl, ?_⟩) ?_ ?_
      rotate_left
      · intro w'
        go_simp
        with_reducible rfl
      rotate_left
      · simp only [Act.put, List.setIfInBounds_toArray, List.set_cons_zero, List.set_cons_succ, i64_w, i32_w]
        rfl
      refine done_ (by kernel_rfl) ?_
      have hcz110_0 : w109.cell? ⟨gb227, 0, none⟩ = some (.int .i64 t223) := (blk_cell BK227.out 0).trans rfl
      have hcz110_1 : w109.cell? ⟨gb227, 1, none⟩ = some (.slice Ao79 t224.length co79) := (blk_cell BK227.out 1).trans rfl
      have hfz110_0 := blk_frozen BK227.out 0
      have hfz110_1 := blk_frozen BK227.out 1
      try go_wp2_with (first | ((with_reducible refine gate_callee (f := 15) rfl ?_); refine goesL_ (some 70) rfl rfl Try.func15 (by kernel_rfl) rfl #[.agg #[.int .i64 t223, .slice Ao79 t224.length co79], .int .i64 1] rfl (by (try simp only [List.map_toArray, List.map_cons, List.map_nil]); first | done | rfl | (simp only [List.length_drop, List.length_take]; rfl)) ?_; (with_reducible refine (laws_markRing.calls k t223 (fun k_ => some k_ = (.slice Ao79 t224.length co79 : Value).ownBlock) (.slice Ao79 t224.length co79) t224 1 t250 t251 w _ ?side1 ?side2 A35.out).mono ?_); (case side1 => repeat (first | (with_reducible first | exact HB.out | apply below_alloc | apply pw_below_drewN | apply below_drew1 | refine below_set ?_ GE205.out | refine below_set ?_ GE206.out | refine below_set ?_ GE222.out | refine below_set ?_ GE227.out | refine below_set ?_ GE232.out | refine below_set ?_ GE238.out) | exact HB.out)); (case side2 => exact Kd.R_tight rfl HO226.out); rintro e w111 ⟨rfl, hy0, hb, hkp⟩; refine ⟨_, rfl, ?_⟩; have n0_ := Aside0.mk (blk_kept (pk BK205.out) hkp (fun hs_ => (fun e_ => (Kd.R_ne HO226.out BK205.out (by decide)) e_) hs_)); have n1_ := Aside0.mk (blk_kept (pk BK206.out) hkp (fun hs_ => (fun e_ => (Kd.R_ne HO226.out BK206.out (by decide)) e_) hs_)); have n2_ := Aside0.mk (Kd.R_mono (ok' := fun k_ => some k_ ≠ (v215 : Value).ownBlock ∧ some k_ ≠ (.slice Ao69 t218.length co69 : Value).ownBlock ∧ some k_ ≠ (.slice Ao79 t224.length co79 : Value).ownBlock ∧ some k_ ≠ (.slice Ao89 t229.length co89 : Value).ownBlock ∧ some k_ ≠ (.slice Ao99 t234.length co99 : Value).ownBlock ∧ some k_ ≠ (.slice Ao104 t241.length co104 : Value).ownBlock ∧ some k_ ≠ (.slice Ao108 t246.length co108 : Value).ownBlock) (Kd.R_keptB (HO212.out) hkp (fun k_ hk_ hs_ => (hk_.1.1.1.1.2) hs_)) (fun k_ hk_ => ⟨hk_.1.1.1.1.1.1.1, hk_.1.1.1.1.1.1.2, hk_.1.1.1.1.1.2, hk_.1.1.1.1.2, hk_.1.1.1.2, hk_.1.1.2, hk_.1.2⟩)); have n3_ := Aside0.mk (Kd.R_mono (ok' := fun k_ => some k_ ≠ (v211 : Value).ownBlock ∧ some k_ ≠ (.slice Ao69 t218.length co69 : Value).ownBlock ∧ some k_ ≠ (.slice Ao79 t224.length co79 : Value).ownBlock ∧ some k_ ≠ (.slice Ao89 t229.length co89 : Value).ownBlock ∧ some k_ ≠ (.slice Ao99 t234.length co99 : Value).ownBlock ∧ some k_ ≠ (.slice Ao104 t241.length co104 : Value).ownBlock ∧ some k_ ≠ (.slice Ao108 t246.length co108 : Value).ownBlock) (Kd.R_keptB (HO216.out) hkp (fun k_ hk_ hs_ => (hk_.1.1.1.1.2) hs_)) (fun k_ hk_ => ⟨hk_.1.1.1.1.1.1.1, hk_.1.1.1.1.1.1.2, hk_.1.1.1.1.1.2, hk_.1.1.1.1.2, hk_.1.1.1.2, hk_.1.1.2, hk_.1.2⟩)); have n4_ := Aside0.mk (Kd.R_mono (ok' := fun k_ => some k_ ≠ (v211 : Value).ownBlock ∧ some k_ ≠ (v215 : Value).ownBlock ∧ some k_ ≠ (.slice Ao79 t224.length co79 : Value).ownBlock ∧ some k_ ≠ (.slice Ao89 t229.length co89 : Value).ownBlock ∧ some k_ ≠ (.slice Ao99 t234.length co99 : Value).ownBlock ∧ some k_ ≠ (.slice Ao104 t241.length co104 : Value).ownBlock ∧ some k_ ≠ (.slice Ao108 t246.length co108 : Value).ownBlock) (Kd.R_keptB (HO220.out) hkp (fun k_ hk_ hs_ => (hk_.1.1.1.1.2) hs_)) (fun k_ hk_ => ⟨hk_.1.1.1.1.1.1.1, hk_.1.1.1.1.1.1.2, hk_.1.1.1.1.1.2, hk_.1.1.1.1.2, hk_.1.1.1.2, hk_.1.1.2, hk_.1.2⟩)); have n5_ := Aside0.mk (blk_kept (pk BK222.out) hkp (fun hs_ => (fun e_ => (Kd.R_ne HO226.out BK222.out (by decide)) e_) hs_)); have n6_ := Aside0.mk (Kd.R_reok rfl hy0 (fun k_ e_ => HO226.out.1 k_ e_)); have n7_ := Aside0.mk (blk_kept (pk BK227.out) hkp (fun hs_ => (fun e_ => (Kd.R_ne HO226.out BK227.out (by decide)) e_) hs_)); have n8_ := Aside0.mk (Kd.R_mono (ok' := fun k_ => some k_ ≠ (v211 : Value).ownBlock ∧ some k_ ≠ (v215 : Value).ownBlock ∧ some k_ ≠ (.slice Ao69 t218.length co69 : Value).ownBlock ∧ some k_ ≠ (.slice Ao79 t224.length co79 : Value).ownBlock ∧ some k_ ≠ (.slice Ao99 t234.length co99 : Value).ownBlock ∧ some k_ ≠ (.slice Ao104 t241.length co104 : Value).ownBlock ∧ some k_ ≠ (.slice Ao108 t246.length co108 : Value).ownBlock) (Kd.R_keptB (HO231.out) hkp (fun k_ hk_ hs_ => (hk_.1.1.1.2) hs_)) (fun k_ hk_ => ⟨hk_.1.1.1.1.1.1.1.2, hk_.1.1.1.1.1.1.2, hk_.1.1.1.1.1.2, hk_.1.1.1.1.2, hk_.1.1.1.2, hk_.1.1.2, hk_.1.2⟩)); have n9_ := Aside0.mk (blk_kept (pk BK232.out) hkp (fun hs_ => (fun e_ => (Kd.R_ne HO226.out BK232.out (by decide)) e_) hs_)); have n10_ := Aside0.mk (Kd.R_mono (ok' := fun k_ => some k_ ≠ (v211 : Value).ownBlock ∧ some k_ ≠ (v215 : Value).ownBlock ∧ some k_ ≠ (.slice Ao69 t218.length co69 : Value).ownBlock ∧ some k_ ≠ (.slice Ao79 t224.length co79 : Value).ownBlock ∧ some k_ ≠ (.slice Ao89 t229.length co89 : Value).ownBlock ∧ some k_ ≠ (.slice Ao104 t241.length co104 : Value).ownBlock ∧ some k_ ≠ (.slice Ao108 t246.length co108 : Value).ownBlock) (Kd.R_keptB (HO236.out) hkp (fun k_ hk_ hs_ => (hk_.1.1.1.2) hs_)) (fun k_ hk_ => ⟨hk_.1.1.1.1.1.1.1.2, hk_.1.1.1.1.1.1.2, hk_.1.1.1.1.1.2, hk_.1.1.1.1.2, hk_.1.1.1.2, hk_.1.1.2, hk_.1.2⟩)); have n11_ := Aside0.mk (blk_kept (pk BK238.out) hkp (fun hs_ => (fun e_ => (Kd.R_ne HO226.out BK238.out (by decide)) e_) hs_)); have n12_ := Aside0.mk (Kd.R_mono (ok' := fun k_ => some k_ ≠ (v211 : Value).ownBlock ∧ some k_ ≠ (v215 : Value).ownBlock ∧ some k_ ≠ (.slice Ao69 t218.length co69 : Value).ownBlock ∧ some k_ ≠ (.slice Ao79 t224.length co79 : Value).ownBlock ∧ some k_ ≠ (.slice Ao89 t229.length co89 : Value).ownBlock ∧ some k_ ≠ (.slice Ao99 t234.length co99 : Value).ownBlock ∧ some k_ ≠ (.slice Ao108 t246.length co108 : Value).ownBlock) (Kd.R_keptB (HO243.out) hkp (fun k_ hk_ hs_ => (hk_.1.1.1.2) hs_)) (fun k_ hk_ => ⟨hk_.1.1.1.1.1.1.1.2, hk_.1.1.1.1.1.1.2, hk_.1.1.1.1.1.2, hk_.1.1.1.1.2, hk_.1.1.1.2, hk_.1.1.2, hk_.1.2⟩)); have n13_ := Aside0.mk (Kd.R_mono (ok' := fun k_ => some k_ ≠ (v211 : Value).ownBlock ∧ some k_ ≠ (v215 : Value).ownBlock ∧ some k_ ≠ (.slice Ao69 t218.length co69 : Value).ownBlock ∧ some k_ ≠ (.slice Ao79 t224.length co79 : Value).ownBlock ∧ some k_ ≠ (.slice Ao89 t229.length co89 : Value).ownBlock ∧ some k_ ≠ (.slice Ao99 t234.length co99 : Value).ownBlock ∧ some k_ ≠ (.slice Ao104 t241.length co104 : Value).ownBlock) (Kd.R_keptB (HO248.out) hkp (fun k_ hk_ hs_ => (hk_.1.1.1.2) hs_)) (fun k_ hk_ => ⟨hk_.1.1.1.1.1.1.1.2, hk_.1.1.1.1.1.1.2, hk_.1.1.1.1.1.2, hk_.1.1.1.1.2, hk_.1.1.1.2, hk_.1.1.2, hk_.1.2⟩)); have n14_ := Aside0.mk (hb); clear BK205; clear BK206; clear HO212; clear HO216; clear HO220; clear BK222; clear HO226; clear BK227; clear HO231; clear BK232; clear HO236; clear BK238; clear HO243; clear HO248; clear HB; have BK205 := n0_; have BK206 := n1_; have HO212 := n2_; have HO216 := n3_; have HO220 := n4_; have BK222 := n5_; have HO226 := n6_; have BK227 := n7_; have HO231 := n8_; have BK232 := n9_; have HO236 := n10_; have BK238 := n11_; have HO243 := n12_; have HO248 := n13_; have HB := n14_; clear n0_ n1_ n2_ n3_ n4_ n5_ n6_ n7_ n8_ n9_ n10_ n11_ n12_ n13_ n14_; (try clear hb); (try clear hkp); (try clear hy0); have hcz112_0 : w111.cell? ⟨gb232, 0, none⟩ = some (.int .i64 t228) := (blk_cell BK232.out 0).trans rfl; have hcz112_1 : w111.cell? ⟨gb232, 1, none⟩ = some (.slice Ao89 t229.length co89) := (blk_cell BK232.out 1).trans rfl; have hfz112_0 := blk_frozen BK232.out 0; have hfz112_1 := blk_frozen BK232.out 1) | ((with_reducible refine gate_callee (f := 15) rfl ?_); refine goesL_ (some 73) rfl rfl Try.func15 (by kernel_rfl) rfl #[.agg #[.int .i64 t228, .slice Ao89 t229.length co89], .int .i64 t250] rfl (by (try simp only [List.map_toArray, List.map_cons, List.map_nil]); first | done | rfl | (simp only [List.length_drop, List.length_take]; rfl)) ?_; (with_reducible refine (laws_markRing.calls k t228 (fun k_ => some k_ = (.slice Ao89 t229.length co89 : Value).ownBlock) (.slice Ao89 t229.length co89) t229 t250 t252 t253 w _ ?side1 ?side2 A36.out).mono ?_); (case side1 => repeat (first | (with_reducible first | exact HB.out | apply below_alloc | apply pw_below_drewN | apply below_drew1 | refine below_set ?_ GE205.out | refine below_set ?_ GE206.out | refine below_set ?_ GE222.out | refine below_set ?_ GE227.out | refine below_set ?_ GE232.out | refine below_set ?_ GE238.out) | exact HB.out)); (case side2 => exact Kd.R_tight rfl HO231.out); rintro e w113 ⟨rfl, hy0, hb, hkp⟩; refine ⟨_, rfl, ?_⟩; have n0_ := Aside0.mk (blk_kept (pk BK205.out) hkp (fun hs_ => (fun e_ => (Kd.R_ne HO231.out BK205.out (by decide)) e_) hs_)); have n1_ := Aside0.mk (blk_kept (pk BK206.out) hkp (fun hs_ => (fun e_ => (Kd.R_ne HO231.out BK206.out (by decide)) e_) hs_)); have n2_ := Aside0.mk (Kd.R_mono (ok' := fun k_ => some k_ ≠ (v215 : Value).ownBlock ∧ some k_ ≠ (.slice Ao69 t218.length co69 : Value).ownBlock ∧ some k_ ≠ (.slice Ao79 t224.length co79 : Value).ownBlock ∧ some k_ ≠ (.slice Ao89 t229.length co89 : Value).ownBlock ∧ some k_ ≠ (.slice Ao99 t234.length co99 : Value).ownBlock ∧ some k_ ≠ (.slice Ao104 t241.length co104 : Value).ownBlock ∧ some k_ ≠ (.slice Ao108 t246.length co108 : Value).ownBlock) (Kd.R_keptB (HO212.out) hkp (fun k_ hk_ hs_ => (hk_.2.2.2.1) hs_)) (fun k_ hk_ => ⟨hk_.1.1, hk_.1.2.1, hk_.1.2.2.1, hk_.1.2.2.2.1, hk_.1.2.2.2.2.1, hk_.1.2.2.2.2.2.1, hk_.1.2.2.2.2.2.2⟩)); have n3_ := Aside0.mk (Kd.R_mono (ok' := fun k_ => some k_ ≠ (v211 : Value).ownBlock ∧ some k_ ≠ (.slice Ao69 t218.length co69 : Value).ownBlock ∧ some k_ ≠ (.slice Ao79 t224.length co79 : Value).ownBlock ∧ some k_ ≠ (.slice Ao89 t229.length co89 : Value).ownBlock ∧ some k_ ≠ (.slice Ao99 t234.length co99 : Value).ownBlock ∧ some k_ ≠ (.slice Ao104 t241.length co104 : Value).ownBlock ∧ some k_ ≠ (.slice Ao108 t246.length co108 : Value).ownBlock) (Kd.R_keptB (HO216.out) hkp (fun k_ hk_ hs_ => (hk_.2.2.2.1) hs_)) (fun k_ hk_ => ⟨hk_.1.1, hk_.1.2.1, hk_.1.2.2.1, hk_.1.2.2.2.1, hk_.1.2.2.2.2.1, hk_.1.2.2.2.2.2.1, hk_.1.2.2.2.2.2.2⟩)); have n4_ := Aside0.mk (Kd.R_mono (ok' := fun k_ => some k_ ≠ (v211 : Value).ownBlock ∧ some k_ ≠ (v215 : Value).ownBlock ∧ some k_ ≠ (.slice Ao79 t224.length co79 : Value).ownBlock ∧ some k_ ≠ (.slice Ao89 t229.length co89 : Value).ownBlock ∧ some k_ ≠ (.slice Ao99 t234.length co99 : Value).ownBlock ∧ some k_ ≠ (.slice Ao104 t241.length co104 : Value).ownBlock ∧ some k_ ≠ (.slice Ao108 t246.length co108 : Value).ownBlock) (Kd.R_keptB (HO220.out) hkp (fun k_ hk_ hs_ => (hk_.2.2.2.1) hs_)) (fun k_ hk_ => ⟨hk_.1.1, hk_.1.2.1, hk_.1.2.2.1, hk_.1.2.2.2.1, hk_.1.2.2.2.2.1, hk_.1.2.2.2.2.2.1, hk_.1.2.2.2.2.2.2⟩)); have n5_ := Aside0.mk (blk_kept (pk BK222.out) hkp (fun hs_ => (fun e_ => (Kd.R_ne HO231.out BK222.out (by decide)) e_) hs_)); have n6_ := Aside0.mk (Kd.R_mono (ok' := fun k_ => some k_ ≠ (v211 : Value).ownBlock ∧ some k_ ≠ (v215 : Value).ownBlock ∧ some k_ ≠ (.slice Ao69 t218.length co69 : Value).ownBlock ∧ some k_ ≠ (.slice Ao89 t229.length co89 : Value).ownBlock ∧ some k_ ≠ (.slice Ao99 t234.length co99 : Value).ownBlock ∧ some k_ ≠ (.slice Ao104 t241.length co104 : Value).ownBlock ∧ some k_ ≠ (.slice Ao108 t246.length co108 : Value).ownBlock) (Kd.R_keptB (HO226.out) hkp (fun k_ hk_ hs_ => (hk_.1.1.1.2) hs_)) (fun k_ hk_ => ⟨hk_.1.1.1.1.1.1.1.2, hk_.1.1.1.1.1.1.2, hk_.1.1.1.1.1.2, hk_.1.1.1.1.2, hk_.1.1.1.2, hk_.1.1.2, hk_.1.2⟩)); have n7_ := Aside0.mk (blk_kept (pk BK227.out) hkp (fun hs_ => (fun e_ => (Kd.R_ne HO231.out BK227.out (by decide)) e_) hs_)); have n8_ := Aside0.mk (Kd.R_reok rfl hy0 (fun k_ e_ => HO231.out.1 k_ e_)); have n9_ := Aside0.mk (blk_kept (pk BK232.out) hkp (fun hs_ => (fun e_ => (Kd.R_ne HO231.out BK232.out (by decide)) e_) hs_)); have n10_ := Aside0.mk (Kd.R_mono (ok' := fun k_ => some k_ ≠ (v211 : Value).ownBlock ∧ some k_ ≠ (v215 : Value).ownBlock ∧ some k_ ≠ (.slice Ao69 t218.length co69 : Value).ownBlock ∧ some k_ ≠ (.slice Ao79 t224.length co79 : Value).ownBlock ∧ some k_ ≠ (.slice Ao89 t229.length co89 : Value).ownBlock ∧ some k_ ≠ (.slice Ao104 t241.length co104 : Value).ownBlock ∧ some k_ ≠ (.slice Ao108 t246.length co108 : Value).ownBlock) (Kd.R_keptB (HO236.out) hkp (fun k_ hk_ hs_ => (hk_.2.2.2.2.1) hs_)) (fun k_ hk_ => ⟨hk_.1.1, hk_.1.2.1, hk_.1.2.2.1, hk_.1.2.2.2.1, hk_.1.2.2.2.2.1, hk_.1.2.2.2.2.2.1, hk_.1.2.2.2.2.2.2⟩)); have n11_ := Aside0.mk (blk_kept (pk BK238.out) hkp (fun hs_ => (fun e_ => (Kd.R_ne HO231.out BK238.out (by decide)) e_) hs_)); have n12_ := Aside0.mk (Kd.R_mono (ok' := fun k_ => some k_ ≠ (v211 : Value).ownBlock ∧ some k_ ≠ (v215 : Value).ownBlock ∧ some k_ ≠ (.slice Ao69 t218.length co69 : Value).ownBlock ∧ some k_ ≠ (.slice Ao79 t224.length co79 : Value).ownBlock ∧ some k_ ≠ (.slice Ao89 t229.length co89 : Value).ownBlock ∧ some k_ ≠ (.slice Ao99 t234.length co99 : Value).ownBlock ∧ some k_ ≠ (.slice Ao108 t246.length co108 : Value).ownBlock) (Kd.R_keptB (HO243.out) hkp (fun k_ hk_ hs_ => (hk_.2.2.2.2.1) hs_)) (fun k_ hk_ => ⟨hk_.1.1, hk_.1.2.1, hk_.1.2.2.1, hk_.1.2.2.2.1, hk_.1.2.2.2.2.1, hk_.1.2.2.2.2.2.1, hk_.1.2.2.2.2.2.2⟩)); have n13_ := Aside0.mk (Kd.R_mono (ok' := fun k_ => some k_ ≠ (v211 : Value).ownBlock ∧ some k_ ≠ (v215 : Value).ownBlock ∧ some k_ ≠ (.slice Ao69 t218.length co69 : Value).ownBlock ∧ some k_ ≠ (.slice Ao79 t224.length co79 : Value).ownBlock ∧ some k_ ≠ (.slice Ao89 t229.length co89 : Value).ownBlock ∧ some k_ ≠ (.slice Ao99 t234.length co99 : Value).ownBlock ∧ some k_ ≠ (.slice Ao104 t241.length co104 : Value).ownBlock) (Kd.R_keptB (HO248.out) hkp (fun k_ hk_ hs_ => (hk_.2.2.2.2.1) hs_)) (fun k_ hk_ => ⟨hk_.1.1, hk_.1.2.1, hk_.1.2.2.1, hk_.1.2.2.2.1, hk_.1.2.2.2.2.1, hk_.1.2.2.2.2.2.1, hk_.1.2.2.2.2.2.2⟩)); have n14_ := Aside0.mk (hb); clear BK205; clear BK206; clear HO212; clear HO216; clear HO220; clear BK222; clear HO226; clear BK227; clear HO231; clear BK232; clear HO236; clear BK238; clear HO243; clear HO248; clear HB; have BK205 := n0_; have BK206 := n1_; have HO212 := n2_; have HO216 := n3_; have HO220 := n4_; have BK222 := n5_; have HO226 := n6_; have BK227 := n7_; have HO231 := n8_; have BK232 := n9_; have HO236 := n10_; have BK238 := n11_; have HO243 := n12_; have HO248 := n13_; have HB := n14_; clear n0_ n1_ n2_ n3_ n4_ n5_ n6_ n7_ n8_ n9_ n10_ n11_ n12_ n13_ n14_; (try clear hb); (try clear hkp); (try clear hy0); have hcz114_0 : w113.cell? ⟨gb238, 0, none⟩ = some (.int .i64 t233) := (blk_cell BK238.out 0).trans rfl; have hcz114_1 : w113.cell? ⟨gb238, 1, none⟩ = some (.slice Ao99 t234.length co99) := (blk_cell BK238.out 1).trans rfl; have hfz114_0 := blk_frozen BK238.out 0; have hfz114_1 := blk_frozen BK238.out 1; have hcz115_0 : w113.cell? ⟨gb222, 0, none⟩ = some (.int .i64 t217) := (blk_cell BK222.out 0).trans rfl; have hcz115_1 : w113.cell? ⟨gb222, 1, none⟩ = some (.slice Ao69 t218.length co69) := (blk_cell BK222.out 1).trans rfl; have hfz115_0 := blk_frozen BK222.out 0; have hfz115_1 := blk_frozen BK222.out 1) | (go_at_call 14; (with_reducible refine (laws_eqRing.calls k t233 _ _ t234 t217 _ _ t218 true _ ?side1 ?side2 ?side3 ?side4 A38.out).mono ?_); (case side1 => repeat (first | exact (Kd.R_reads' HO236.out).2.2 | (with_reducible refine Kd.C_alloc ?_ _) | (with_reducible refine Kd.C_drewN ?_ _) | (with_reducible refine Kd.C_drew ?_))); (case side2 => exact (Kd.R_reads' HO236.out).2.1); (case side3 => repeat (first | exact (Kd.R_reads' HO220.out).2.2 | (with_reducible refine Kd.C_alloc ?_ _) | (with_reducible refine Kd.C_drewN ?_ _) | (with_reducible refine Kd.C_drew ?_))); (case side4 => exact (Kd.R_reads' HO220.out).2.1); rintro e w116 ⟨rfl, hb⟩; have n0_ := Aside0.mk (Kd.R_below (rk HO212.out) hb); have n1_ := Aside0.mk (Kd.R_below (rk HO216.out) hb); have n2_ := Aside0.mk (Kd.R_below (rk HO220.out) hb); have n3_ := Aside0.mk (Kd.R_below (rk HO226.out) hb); have n4_ := Aside0.mk (Kd.R_below (rk HO231.out) hb); have n5_ := Aside0.mk (Kd.R_below (rk HO236.out) hb); have n6_ := Aside0.mk (Kd.R_below (rk HO243.out) hb); have n7_ := Aside0.mk (Kd.R_below (rk HO248.out) hb); have n8_ := Aside0.mk (blk_below (pk BK205.out) hb); have n9_ := Aside0.mk (blk_below (pk BK206.out) hb); have n10_ := Aside0.mk (blk_below (pk BK222.out) hb); have n11_ := Aside0.mk (blk_below (pk BK227.out) hb); have n12_ := Aside0.mk (blk_below (pk BK232.out) hb); have n13_ := Aside0.mk (blk_below (pk BK238.out) hb); have n14_ := Aside0.mk (below_step (bks HB.out) hb); clear HO212; clear HO216; clear HO220; clear HO226; clear HO231; clear HO236; clear HO243; clear HO248; clear BK205; clear BK206; clear BK222; clear BK227; clear BK232; clear BK238; clear HB; have HO212 := n0_; have HO216 := n1_; have HO220 := n2_; have HO226 := n3_; have HO231 := n4_; have HO236 := n5_; have HO243 := n6_; have HO248 := n7_; have BK205 := n8_; have BK206 := n9_; have BK222 := n10_; have BK227 := n11_; have BK232 := n12_; have BK238 := n13_; have HB := n14_; clear n0_ n1_ n2_ n3_ n4_ n5_ n6_ n7_ n8_ n9_ n10_ n11_ n12_ n13_ n14_; (try clear hb); (try clear hb2); (try clear hk); (try clear hi); have hcz117_0 : w116.cell? ⟨gb238, 0, none⟩ = some (.int .i64 t233) := (blk_cell BK238.out 0).trans rfl; have hcz117_1 : w116.cell? ⟨gb238, 1, none⟩ = some (.slice Ao99 t234.length co99) := (blk_cell BK238.out 1).trans rfl; have hfz117_0 := blk_frozen BK238.out 0; have hfz117_1 := blk_frozen BK238.out 1) | ((with_reducible refine gate_callee (f := 15) rfl ?_); refine goesL_ (some 89) rfl rfl Try.func15 (by kernel_rfl) rfl #[.agg #[.int .i64 t233, .slice Ao99 t234.length co99], .int .i64 1] rfl (by (try simp only [List.map_toArray, List.map_cons, List.map_nil]); first | done | rfl | (simp only [List.length_drop, List.length_take]; rfl)) ?_; (with_reducible refine (laws_markRing.calls k t233 (fun k_ => some k_ = (.slice Ao99 t234.length co99 : Value).ownBlock) (.slice Ao99 t234.length co99) t234 1 t255 t256 w _ ?side1 ?side2 A40.out).mono ?_); (case side1 => repeat (first | (with_reducible first | exact HB.out | apply below_alloc | apply pw_below_drewN | apply below_drew1 | refine below_set ?_ GE205.out | refine below_set ?_ GE206.out | refine below_set ?_ GE222.out | refine below_set ?_ GE227.out | refine below_set ?_ GE232.out | refine below_set ?_ GE238.out) | exact HB.out)); (case side2 => exact Kd.R_tight rfl HO236.out); rintro e w118 ⟨rfl, hy0, hb, hkp⟩; refine ⟨_, rfl, ?_⟩; have n0_ := Aside0.mk (blk_kept (pk BK205.out) hkp (fun hs_ => (fun e_ => (Kd.R_ne HO236.out BK205.out (by decide)) e_) hs_)); have n1_ := Aside0.mk (blk_kept (pk BK206.out) hkp (fun hs_ => (fun e_ => (Kd.R_ne HO236.out BK206.out (by decide)) e_) hs_)); have n2_ := Aside0.mk (Kd.R_mono (ok' := fun k_ => some k_ ≠ (v215 : Value).ownBlock ∧ some k_ ≠ (.slice Ao69 t218.length co69 : Value).ownBlock ∧ some k_ ≠ (.slice Ao79 t224.length co79 : Value).ownBlock ∧ some k_ ≠ (.slice Ao89 t229.length co89 : Value).ownBlock ∧ some k_ ≠ (.slice Ao99 t234.length co99 : Value).ownBlock ∧ some k_ ≠ (.slice Ao104 t241.length co104 : Value).ownBlock ∧ some k_ ≠ (.slice Ao108 t246.length co108 : Value).ownBlock) (Kd.R_keptB (HO212.out) hkp (fun k_ hk_ hs_ => (hk_.2.2.2.2.1) hs_)) (fun k_ hk_ => ⟨hk_.1.1, hk_.1.2.1, hk_.1.2.2.1, hk_.1.2.2.2.1, hk_.1.2.2.2.2.1, hk_.1.2.2.2.2.2.1, hk_.1.2.2.2.2.2.2⟩)); have n3_ := Aside0.mk (Kd.R_mono (ok' := fun k_ => some k_ ≠ (v211 : Value).ownBlock ∧ some k_ ≠ (.slice Ao69 t218.length co69 : Value).ownBlock ∧ some k_ ≠ (.slice Ao79 t224.length co79 : Value).ownBlock ∧ some k_ ≠ (.slice Ao89 t229.length co89 : Value).ownBlock ∧ some k_ ≠ (.slice Ao99 t234.length co99 : Value).ownBlock ∧ some k_ ≠ (.slice Ao104 t241.length co104 : Value).ownBlock ∧ some k_ ≠ (.slice Ao108 t246.length co108 : Value).ownBlock) (Kd.R_keptB (HO216.out) hkp (fun k_ hk_ hs_ => (hk_.2.2.2.2.1) hs_)) (fun k_ hk_ => ⟨hk_.1.1, hk_.1.2.1, hk_.1.2.2.1, hk_.1.2.2.2.1, hk_.1.2.2.2.2.1, hk_.1.2.2.2.2.2.1, hk_.1.2.2.2.2.2.2⟩)); have n4_ := Aside0.mk (Kd.R_mono (ok' := fun k_ => some k_ ≠ (v211 : Value).ownBlock ∧ some k_ ≠ (v215 : Value).ownBlock ∧ some k_ ≠ (.slice Ao79 t224.length co79 : Value).ownBlock ∧ some k_ ≠ (.slice Ao89 t229.length co89 : Value).ownBlock ∧ some k_ ≠ (.slice Ao99 t234.length co99 : Value).ownBlock ∧ some k_ ≠ (.slice Ao104 t241.length co104 : Value).ownBlock ∧ some k_ ≠ (.slice Ao108 t246.length co108 : Value).ownBlock) (Kd.R_keptB (HO220.out) hkp (fun k_ hk_ hs_ => (hk_.2.2.2.2.1) hs_)) (fun k_ hk_ => ⟨hk_.1.1, hk_.1.2.1, hk_.1.2.2.1, hk_.1.2.2.2.1, hk_.1.2.2.2.2.1, hk_.1.2.2.2.2.2.1, hk_.1.2.2.2.2.2.2⟩)); have n5_ := Aside0.mk (blk_kept (pk BK222.out) hkp (fun hs_ => (fun e_ => (Kd.R_ne HO236.out BK222.out (by decide)) e_) hs_)); have n6_ := Aside0.mk (Kd.R_mono (ok' := fun k_ => some k_ ≠ (v211 : Value).ownBlock ∧ some k_ ≠ (v215 : Value).ownBlock ∧ some k_ ≠ (.slice Ao69 t218.length co69 : Value).ownBlock ∧ some k_ ≠ (.slice Ao89 t229.length co89 : Value).ownBlock ∧ some k_ ≠ (.slice Ao99 t234.length co99 : Value).ownBlock ∧ some k_ ≠ (.slice Ao104 t241.length co104 : Value).ownBlock ∧ some k_ ≠ (.slice Ao108 t246.length co108 : Value).ownBlock) (Kd.R_keptB (HO226.out) hkp (fun k_ hk_ hs_ => (hk_.2.2.2.2.1) hs_)) (fun k_ hk_ => ⟨hk_.1.1, hk_.1.2.1, hk_.1.2.2.1, hk_.1.2.2.2.1, hk_.1.2.2.2.2.1, hk_.1.2.2.2.2.2.1, hk_.1.2.2.2.2.2.2⟩)); have n7_ := Aside0.mk (blk_kept (pk BK227.out) hkp (fun hs_ => (fun e_ => (Kd.R_ne HO236.out BK227.out (by decide)) e_) hs_)); have n8_ := Aside0.mk (Kd.R_mono (ok' := fun k_ => some k_ ≠ (v211 : Value).ownBlock ∧ some k_ ≠ (v215 : Value).ownBlock ∧ some k_ ≠ (.slice Ao69 t218.length co69 : Value).ownBlock ∧ some k_ ≠ (.slice Ao79 t224.length co79 : Value).ownBlock ∧ some k_ ≠ (.slice Ao99 t234.length co99 : Value).ownBlock ∧ some k_ ≠ (.slice Ao104 t241.length co104 : Value).ownBlock ∧ some k_ ≠ (.slice Ao108 t246.length co108 : Value).ownBlock) (Kd.R_keptB (HO231.out) hkp (fun k_ hk_ hs_ => (hk_.2.2.2.2.1) hs_)) (fun k_ hk_ => ⟨hk_.1.1, hk_.1.2.1, hk_.1.2.2.1, hk_.1.2.2.2.1, hk_.1.2.2.2.2.1, hk_.1.2.2.2.2.2.1, hk_.1.2.2.2.2.2.2⟩)); have n9_ := Aside0.mk (blk_kept (pk BK232.out) hkp (fun hs_ => (fun e_ => (Kd.R_ne HO236.out BK232.out (by decide)) e_) hs_)); have n10_ := Aside0.mk (Kd.R_reok rfl hy0 (fun k_ e_ => HO236.out.1 k_ e_)); have n11_ := Aside0.mk (blk_kept (pk BK238.out) hkp (fun hs_ => (fun e_ => (Kd.R_ne HO236.out BK238.out (by decide)) e_) hs_)); have n12_ := Aside0.mk (Kd.R_mono (ok' := fun k_ => some k_ ≠ (v211 : Value).ownBlock ∧ some k_ ≠ (v215 : Value).ownBlock ∧ some k_ ≠ (.slice Ao69 t218.length co69 : Value).ownBlock ∧ some k_ ≠ (.slice Ao79 t224.length co79 : Value).ownBlock ∧ some k_ ≠ (.slice Ao89 t229.length co89 : Value).ownBlock ∧ some k_ ≠ (.slice Ao99 t234.length co99 : Value).ownBlock ∧ some k_ ≠ (.slice Ao108 t246.length co108 : Value).ownBlock) (Kd.R_keptB (HO243.out) hkp (fun k_ hk_ hs_ => (hk_.2.2.2.2.2.1) hs_)) (fun k_ hk_ => ⟨hk_.1.1, hk_.1.2.1, hk_.1.2.2.1, hk_.1.2.2.2.1, hk_.1.2.2.2.2.1, hk_.1.2.2.2.2.2.1, hk_.1.2.2.2.2.2.2⟩)); have n13_ := Aside0.mk (Kd.R_mono (ok' := fun k_ => some k_ ≠ (v211 : Value).ownBlock ∧ some k_ ≠ (v215 : Value).ownBlock ∧ some k_ ≠ (.slice Ao69 t218.length co69 : Value).ownBlock ∧ some k_ ≠ (.slice Ao79 t224.length co79 : Value).ownBlock ∧ some k_ ≠ (.slice Ao89 t229.length co89 : Value).ownBlock ∧ some k_ ≠ (.slice Ao99 t234.length co99 : Value).ownBlock ∧ some k_ ≠ (.slice Ao104 t241.length co104 : Value).ownBlock) (Kd.R_keptB (HO248.out) hkp (fun k_ hk_ hs_ => (hk_.2.2.2.2.2.1) hs_)) (fun k_ hk_ => ⟨hk_.1.1, hk_.1.2.1, hk_.1.2.2.1, hk_.1.2.2.2.1, hk_.1.2.2.2.2.1, hk_.1.2.2.2.2.2.1, hk_.1.2.2.2.2.2.2⟩)); have n14_ := Aside0.mk (hb); clear BK205; clear BK206; clear HO212; clear HO216; clear HO220; clear BK222; clear HO226; clear BK227; clear HO231; clear BK232; clear HO236; clear BK238; clear HO243; clear HO248; clear HB; have BK205 := n0_; have BK206 := n1_; have HO212 := n2_; have HO216 := n3_; have HO220 := n4_; have BK222 := n5_; have HO226 := n6_; have BK227 := n7_; have HO231 := n8_; have BK232 := n9_; have HO236 := n10_; have BK238 := n11_; have HO243 := n12_; have HO248 := n13_; have HB := n14_; clear n0_ n1_ n2_ n3_ n4_ n5_ n6_ n7_ n8_ n9_ n10_ n11_ n12_ n13_ n14_; (try clear hb); (try clear hkp); (try clear hy0); have hcz119_0 : w118.cell? ⟨gb238, 0, none⟩ = some (.int .i64 t233) := (blk_cell BK238.out 0).trans rfl; have hcz119_1 : w118.cell? ⟨gb238, 1, none⟩ = some (.slice Ao99 t234.length co99) := (blk_cell BK238.out 1).trans rfl; have hfz119_0 := blk_frozen BK238.out 0; have hfz119_1 := blk_frozen BK238.out 1) | ((with_reducible refine gate_callee (f := 16) rfl ?_); refine goesL_ (some 92) rfl rfl Try.func16 (by kernel_rfl) rfl #[.agg #[.int .i64 t233, .slice Ao99 t256.length co99], .int .i64 1] rfl (by (try simp only [List.map_toArray, List.map_cons, List.map_nil]); first | done | (rw [show t256.length = t234.length from (Kd.R_reads' HO236.out).1.symm] <;> rfl) | rfl | (simp only [List.length_drop, List.length_take]; rfl)) ?_; (with_reducible refine (laws_heldRing.calls k t233 _ _ t256 1 t257 _ ?side1 ?side2 A41.out).mono ?_); (case side1 => repeat (first | exact (Kd.R_reads' HO236.out).2.2 | (with_reducible refine Kd.C_alloc ?_ _) | (with_reducible refine Kd.C_drewN ?_ _) | (with_reducible refine Kd.C_drew ?_))); (case side2 => rw [show t256.length = t234.length from (Kd.R_reads' HO236.out).1.symm]; exact (Kd.R_reads' HO236.out).2.1); rintro e w120 ⟨rfl, hb⟩; refine ⟨_, rfl, ?_⟩; have n0_ := Aside0.mk (Kd.R_below (rk HO212.out) hb); have n1_ := Aside0.mk (Kd.R_below (rk HO216.out) hb); have n2_ := Aside0.mk (Kd.R_below (rk HO220.out) hb); have n3_ := Aside0.mk (Kd.R_below (rk HO226.out) hb); have n4_ := Aside0.mk (Kd.R_below (rk HO231.out) hb); have n5_ := Aside0.mk (Kd.R_below (rk HO236.out) hb); have n6_ := Aside0.mk (Kd.R_below (rk HO243.out) hb); have n7_ := Aside0.mk (Kd.R_below (rk HO248.out) hb); have n8_ := Aside0.mk (blk_below (pk BK205.out) hb); have n9_ := Aside0.mk (blk_below (pk BK206.out) hb); have n10_ := Aside0.mk (blk_below (pk BK222.out) hb); have n11_ := Aside0.mk (blk_below (pk BK227.out) hb); have n12_ := Aside0.mk (blk_below (pk BK232.out) hb); have n13_ := Aside0.mk (blk_below (pk BK238.out) hb); have n14_ := Aside0.mk (below_step (bks HB.out) hb); clear HO212; clear HO216; clear HO220; clear HO226; clear HO231; clear HO236; clear HO243; clear HO248; clear BK205; clear BK206; clear BK222; clear BK227; clear BK232; clear BK238; clear HB; have HO212 := n0_; have HO216 := n1_; have HO220 := n2_; have HO226 := n3_; have HO231 := n4_; have HO236 := n5_; have HO243 := n6_; have HO248 := n7_; have BK205 := n8_; have BK206 := n9_; have BK222 := n10_; have BK227 := n11_; have BK232 := n12_; have BK238 := n13_; have HB := n14_; clear n0_ n1_ n2_ n3_ n4_ n5_ n6_ n7_ n8_ n9_ n10_ n11_ n12_ n13_ n14_; (try clear hb); (try clear hb2); (try clear hk); (try clear hi)))
      have n0_ := Aside0.mk (Kd.R_drew HO212.out)
      have n1_ := Aside0.mk (Kd.R_drew HO216.out)
      have n2_ := Aside0.mk (Kd.R_drew HO220.out)
      have n3_ := Aside0.mk (Kd.R_drew HO226.out)
      have n4_ := Aside0.mk (Kd.R_drew HO231.out)
      have n5_ := Aside0.mk (Kd.R_drew HO236.out)
      have n6_ := Aside0.mk (Kd.R_drew HO243.out)
      have n7_ := Aside0.mk (Kd.R_drew HO248.out)
      have n8_ := Aside0.mk (blk_drew BK205.out)
      have n9_ := Aside0.mk (blk_drew BK206.out)
      have n10_ := Aside0.mk (blk_drew BK222.out)
      have n11_ := Aside0.mk (blk_drew BK227.out)
      have n12_ := Aside0.mk (blk_drew BK232.out)
      have n13_ := Aside0.mk (blk_drew BK238.out)
      have n14_ := Aside0.mk (below_drew1 HB.out)
      clear HO212 HO216 HO220 HO226 HO231 HO236 HO243 HO248 BK205 BK206 BK222 BK227 BK232 BK238 HB
      have HO212 := n0_
      have HO216 := n1_
      have HO220 := n2_
      have HO226 := n3_
      have HO231 := n4_
      have HO236 := n5_
      have HO243 := n6_
      have HO248 := n7_
      have BK205 := n8_
      have BK206 := n9_
      have BK222 := n10_
      have BK227 := n11_
      have BK232 := n12_
      have BK238 := n13_
      have HB := n14_
      clear n0_ n1_ n2_ n3_ n4_ n5_ n6_ n7_ n8_ n9_ n10_ n11_ n12_ n13_ n14_
      refine start_ (n := 12) (S := fun w' => w'.cell? ⟨gb205, 0, none⟩ = some (.int .i64 a0_0) ∧ w'.cell? ⟨gb205, 1, none⟩ = some (.slice A0_1 l0_1.length c0_1) ∧ w'.cell? ⟨gb206, 0, none⟩ = some (.int .i64 a1_0) ∧ w'.cell? ⟨gb206, 1, none⟩ = some (.slice A1_1 l1_1.length c1_1)) (ds := []) #[false, false, false, false, false, false, false, false, false, false, false, false] (by kernel_rfl) rfl rfl ⟨(blk_cell BK205.out 0).trans rfl, (blk_cell BK205.out 1).trans rfl, (blk_cell BK206.out 0).trans rfl, (blk_cell BK206.out 1).trans rfl⟩ (fun hHeld => ?_); refine with_tabW laws_FnExactAddRings.tab31 laws_FnExactAddRings.bits31 (fun HT_ HW_ => ?_)
      generalize w120.drew = w121 at HO212 HO216 HO220 HO226 HO231 HO236 HO243 HO248 BK205 BK206 BK222 BK227 BK232 BK238 HB hHeld ⊢
      refine pure_ (i := 4) (N := some 103) (v := ?_) (a' := ?_) #[false, false, false, false, true, false, false, false, false, false, false, false] rfl rfl (any_of HT_.out (by kernel_rfl)) (fun _ _ _ h => h) (Or.inl ⟨by rfl, ?_⟩) ?_ ?_
      rotate_left
      · intro w'
        go_simp
        with_reducible rfl
      rotate_left
      · simp only [Act.put, List.setIfInBounds_toArray, List.set_cons_zero, List.set_cons_succ, i64_w, i32_w]
        rfl
      refine take_ (i := 0) (N := some 99) (v := ?_) (a' := ?_) #[true, false, false, false, true, false, false, false, false, false, false, false] rfl rfl (take_ofW HT_.out HW_.out (by kernel_rfl)) (fun _ _ _ h => h) (Or.inl ⟨by rfl, ?_⟩) hHeld ?_ ?_
      rotate_left
      · rintro w' ⟨s0, s1, s2, s3⟩
        go_simp
        with_reducible rfl
      rotate_left
      · simp only [Act.put, List.setIfInBounds_toArray, List.set_cons_zero, List.set_cons_succ, i64_w, i32_w]
        rfl
      refine take_ (i := 2) (N := some 101) (v := ?_) (a' := ?_) #[true, false, true, false, true, false, false, false, false, false, false, false] rfl rfl (take_ofW HT_.out HW_.out (by kernel_rfl)) (fun _ _ _ h => h) (Or.inl ⟨by rfl, ?_⟩) hHeld ?_ ?_
      rotate_left
      · rintro w' ⟨s0, s1, s2, s3⟩
        go_simp
        with_reducible rfl
      rotate_left
      · simp only [Act.put, List.setIfInBounds_toArray, List.set_cons_zero, List.set_cons_succ, i64_w, i32_w]
        rfl
      refine join_ (σ := Value × Value × Value × Nat) 2 #[true, true, true, true, true, true, true, true, true, true, false, false] (fun s_ => [(100, .agg #[.int .i64 t258, s_.1]), (102, .agg #[.int .i64 t262, s_.2.1]), (104, .tuple #[.agg #[.int .i64 t266, s_.2.2.1], .int .i64 t270]), (17, .pointer (some ⟨s_.2.2.2, 0, none⟩)), (98, .tuple #[.agg #[.int .i64 t266, s_.2.2.1], .int .i64 t270]), (105, .agg #[.int .i64 t266, s_.2.2.1]), (106, .int .i64 t270)]) (fun s_ w' => (w'.cell? ⟨gb205, 0, none⟩ = some (.int .i64 a0_0) ∧ w'.cell? ⟨gb205, 1, none⟩ = some (.slice A0_1 l0_1.length c0_1) ∧ w'.cell? ⟨gb206, 0, none⟩ = some (.int .i64 a1_0) ∧ w'.cell? ⟨gb206, 1, none⟩ = some (.slice A1_1 l1_1.length c1_1)) ∧ (Kd.R (Kd.int .i64) 2 w' w.heap.size (fun k_ => some k_ ≠ (v215 : Value).ownBlock ∧ some k_ ≠ (.slice Ao69 t218.length co69 : Value).ownBlock ∧ some k_ ≠ (.slice Ao79 t224.length co79 : Value).ownBlock ∧ some k_ ≠ (.slice Ao89 t229.length co89 : Value).ownBlock ∧ some k_ ≠ (.slice Ao99 t234.length co99 : Value).ownBlock ∧ some k_ ≠ (.slice Ao104 t241.length co104 : Value).ownBlock ∧ some k_ ≠ (.slice Ao108 t246.length co108 : Value).ownBlock ∧ some k_ ≠ (s_.1 : Value).ownBlock ∧ some k_ ≠ (s_.2.1 : Value).ownBlock ∧ some k_ ≠ (s_.2.2.1 : Value).ownBlock) v211 t210) ∧ (Kd.R (Kd.int .i64) 2 w' w.heap.size (fun k_ => some k_ ≠ (v211 : Value).ownBlock ∧ some k_ ≠ (.slice Ao69 t218.length co69 : Value).ownBlock ∧ some k_ ≠ (.slice Ao79 t224.length co79 : Value).ownBlock ∧ some k_ ≠ (.slice Ao89 t229.length co89 : Value).ownBlock ∧ some k_ ≠ (.slice Ao99 t234.length co99 : Value).ownBlock ∧ some k_ ≠ (.slice Ao104 t241.length co104 : Value).ownBlock ∧ some k_ ≠ (.slice Ao108 t246.length co108 : Value).ownBlock ∧ some k_ ≠ (s_.1 : Value).ownBlock ∧ some k_ ≠ (s_.2.1 : Value).ownBlock ∧ some k_ ≠ (s_.2.2.1 : Value).ownBlock) v215 t214) ∧ (Kd.R (Kd.int .i64) 2 w' w.heap.size (fun k_ => some k_ ≠ (v211 : Value).ownBlock ∧ some k_ ≠ (v215 : Value).ownBlock ∧ some k_ ≠ (.slice Ao79 t224.length co79 : Value).ownBlock ∧ some k_ ≠ (.slice Ao89 t229.length co89 : Value).ownBlock ∧ some k_ ≠ (.slice Ao99 t234.length co99 : Value).ownBlock ∧ some k_ ≠ (.slice Ao104 t241.length co104 : Value).ownBlock ∧ some k_ ≠ (.slice Ao108 t246.length co108 : Value).ownBlock ∧ some k_ ≠ (s_.1 : Value).ownBlock ∧ some k_ ≠ (s_.2.1 : Value).ownBlock ∧ some k_ ≠ (s_.2.2.1 : Value).ownBlock) (.slice Ao69 t218.length co69) t218) ∧ (Kd.R (Kd.int .i64) 2 w' w.heap.size (fun k_ => some k_ ≠ (v211 : Value).ownBlock ∧ some k_ ≠ (v215 : Value).ownBlock ∧ some k_ ≠ (.slice Ao69 t218.length co69 : Value).ownBlock ∧ some k_ ≠ (.slice Ao89 t229.length co89 : Value).ownBlock ∧ some k_ ≠ (.slice Ao99 t234.length co99 : Value).ownBlock ∧ some k_ ≠ (.slice Ao104 t241.length co104 : Value).ownBlock ∧ some k_ ≠ (.slice Ao108 t246.length co108 : Value).ownBlock ∧ some k_ ≠ (s_.1 : Value).ownBlock ∧ some k_ ≠ (s_.2.1 : Value).ownBlock ∧ some k_ ≠ (s_.2.2.1 : Value).ownBlock) (.slice Ao79 t224.length co79) t251) ∧ (Kd.R (Kd.int .i64) 2 w' w.heap.size (fun k_ => some k_ ≠ (v211 : Value).ownBlock ∧ some k_ ≠ (v215 : Value).ownBlock ∧ some k_ ≠ (.slice Ao69 t218.length co69 : Value).ownBlock ∧ some k_ ≠ (.slice Ao79 t224.length co79 : Value).ownBlock ∧ some k_ ≠ (.slice Ao99 t234.length co99 : Value).ownBlock ∧ some k_ ≠ (.slice Ao104 t241.length co104 : Value).ownBlock ∧ some k_ ≠ (.slice Ao108 t246.length co108 : Value).ownBlock ∧ some k_ ≠ (s_.1 : Value).ownBlock ∧ some k_ ≠ (s_.2.1 : Value).ownBlock ∧ some k_ ≠ (s_.2.2.1 : Value).ownBlock) (.slice Ao89 t229.length co89) t253) ∧ (Kd.R (Kd.int .i64) 2 w' w.heap.size (fun k_ => some k_ ≠ (v211 : Value).ownBlock ∧ some k_ ≠ (v215 : Value).ownBlock ∧ some k_ ≠ (.slice Ao69 t218.length co69 : Value).ownBlock ∧ some k_ ≠ (.slice Ao79 t224.length co79 : Value).ownBlock ∧ some k_ ≠ (.slice Ao89 t229.length co89 : Value).ownBlock ∧ some k_ ≠ (.slice Ao104 t241.length co104 : Value).ownBlock ∧ some k_ ≠ (.slice Ao108 t246.length co108 : Value).ownBlock ∧ some k_ ≠ (s_.1 : Value).ownBlock ∧ some k_ ≠ (s_.2.1 : Value).ownBlock ∧ some k_ ≠ (s_.2.2.1 : Value).ownBlock) (.slice Ao99 t234.length co99) t256) ∧ (Kd.R (Kd.int .i64) 2 w' w.heap.size (fun k_ => some k_ ≠ (v211 : Value).ownBlock ∧ some k_ ≠ (v215 : Value).ownBlock ∧ some k_ ≠ (.slice Ao69 t218.length co69 : Value).ownBlock ∧ some k_ ≠ (.slice Ao79 t224.length co79 : Value).ownBlock ∧ some k_ ≠ (.slice Ao89 t229.length co89 : Value).ownBlock ∧ some k_ ≠ (.slice Ao99 t234.length co99 : Value).ownBlock ∧ some k_ ≠ (.slice Ao108 t246.length co108 : Value).ownBlock ∧ some k_ ≠ (s_.1 : Value).ownBlock ∧ some k_ ≠ (s_.2.1 : Value).ownBlock ∧ some k_ ≠ (s_.2.2.1 : Value).ownBlock) (.slice Ao104 t241.length co104) t241) ∧ (Kd.R (Kd.int .i64) 2 w' w.heap.size (fun k_ => some k_ ≠ (v211 : Value).ownBlock ∧ some k_ ≠ (v215 : Value).ownBlock ∧ some k_ ≠ (.slice Ao69 t218.length co69 : Value).ownBlock ∧ some k_ ≠ (.slice Ao79 t224.length co79 : Value).ownBlock ∧ some k_ ≠ (.slice Ao89 t229.length co89 : Value).ownBlock ∧ some k_ ≠ (.slice Ao99 t234.length co99 : Value).ownBlock ∧ some k_ ≠ (.slice Ao104 t241.length co104 : Value).ownBlock ∧ some k_ ≠ (s_.1 : Value).ownBlock ∧ some k_ ≠ (s_.2.1 : Value).ownBlock ∧ some k_ ≠ (s_.2.2.1 : Value).ownBlock) (.slice Ao108 t246.length co108) t246) ∧ (Kd.R (Kd.int .i64) 2 w' w.heap.size (fun k_ => some k_ ≠ (v211 : Value).ownBlock ∧ some k_ ≠ (v215 : Value).ownBlock ∧ some k_ ≠ (.slice Ao69 t218.length co69 : Value).ownBlock ∧ some k_ ≠ (.slice Ao79 t224.length co79 : Value).ownBlock ∧ some k_ ≠ (.slice Ao89 t229.length co89 : Value).ownBlock ∧ some k_ ≠ (.slice Ao99 t234.length co99 : Value).ownBlock ∧ some k_ ≠ (.slice Ao104 t241.length co104 : Value).ownBlock ∧ some k_ ≠ (.slice Ao108 t246.length co108 : Value).ownBlock ∧ some k_ ≠ (s_.2.1 : Value).ownBlock ∧ some k_ ≠ (s_.2.2.1 : Value).ownBlock) s_.1 t259) ∧ (Kd.R (Kd.int .i64) 2 w' w.heap.size (fun k_ => some k_ ≠ (v211 : Value).ownBlock ∧ some k_ ≠ (v215 : Value).ownBlock ∧ some k_ ≠ (.slice Ao69 t218.length co69 : Value).ownBlock ∧ some k_ ≠ (.slice Ao79 t224.length co79 : Value).ownBlock ∧ some k_ ≠ (.slice Ao89 t229.length co89 : Value).ownBlock ∧ some k_ ≠ (.slice Ao99 t234.length co99 : Value).ownBlock ∧ some k_ ≠ (.slice Ao104 t241.length co104 : Value).ownBlock ∧ some k_ ≠ (.slice Ao108 t246.length co108 : Value).ownBlock ∧ some k_ ≠ (s_.1 : Value).ownBlock ∧ some k_ ≠ (s_.2.2.1 : Value).ownBlock) s_.2.1 t263) ∧ (Kd.R (Kd.int .i64) 2 w' w.heap.size (fun k_ => some k_ ≠ (v211 : Value).ownBlock ∧ some k_ ≠ (v215 : Value).ownBlock ∧ some k_ ≠ (.slice Ao69 t218.length co69 : Value).ownBlock ∧ some k_ ≠ (.slice Ao79 t224.length co79 : Value).ownBlock ∧ some k_ ≠ (.slice Ao89 t229.length co89 : Value).ownBlock ∧ some k_ ≠ (.slice Ao99 t234.length co99 : Value).ownBlock ∧ some k_ ≠ (.slice Ao104 t241.length co104 : Value).ownBlock ∧ some k_ ≠ (.slice Ao108 t246.length co108 : Value).ownBlock ∧ some k_ ≠ (s_.1 : Value).ownBlock ∧ some k_ ≠ (s_.2.1 : Value).ownBlock) s_.2.2.1 t267) ∧ (w'.heap[gb205]? = some (.cells #[.int .i64 a0_0, .slice A0_1 l0_1.length c0_1] 32 (0, 0))) ∧ (w'.heap[gb206]? = some (.cells #[.int .i64 a1_0, .slice A1_1 l1_1.length c1_1] 32 (0, 0))) ∧ (w'.heap[gb222]? = some (.cells #[.int .i64 t217, .slice Ao69 t218.length co69] 24 (0, 0))) ∧ (w'.heap[gb227]? = some (.cells #[.int .i64 t223, .slice Ao79 t224.length co79] 24 (0, 0))) ∧ (w'.heap[gb232]? = some (.cells #[.int .i64 t228, .slice Ao89 t229.length co89] 24 (0, 0))) ∧ (w'.heap[gb238]? = some (.cells #[.int .i64 t233, .slice Ao99 t234.length co99] 24 (0, 0))) ∧ (w'.heap[s_.2.2.2]? = some (.cells #[.int .i64 0, .slice none 0 0] 24 (0, 0))) ∧ (w.heap.size ≤ s_.2.2.2) ∧ (w.heap.size ≤ s_.2.2.2) ∧ (gb205 ≠ s_.2.2.2) ∧ (s_.2.2.2 ≠ gb205) ∧ (gb206 ≠ s_.2.2.2) ∧ (s_.2.2.2 ≠ gb206) ∧ (gb222 ≠ s_.2.2.2) ∧ (s_.2.2.2 ≠ gb222) ∧ (gb227 ≠ s_.2.2.2) ∧ (s_.2.2.2 ≠ gb227) ∧ (gb232 ≠ s_.2.2.2) ∧ (s_.2.2.2 ≠ gb232) ∧ (gb238 ≠ s_.2.2.2) ∧ (s_.2.2.2 ≠ gb238) ∧ (Below w.heap.size w w')) ?_ ?_
      rotate_left
      · intro hCont
        refine two_ (i := 1) (j := 9) (Ni := some 100) (Nj := some 17) #[true, true, true, false, true, false, false, false, false, false, false, false] #[true, false, true, false, true, false, false, false, false, true, false, false] rfl rfl rfl rfl (two_of HT_.out (by kernel_rfl)) (by decide) (by decide) (fun K hK => ?_) (fun K hK => ?_)
        · skip
          refine goes_ Try.func21 (by kernel_rfl) rfl #[.agg #[.int .i64 a0_0, .slice A0_1 l0_1.length c0_1]] (by rfl) rfl rfl (by (try simp only [List.map_toArray, List.map_cons, List.map_nil]); first | done | rfl | (simp only [List.length_drop, List.length_take]; rfl)) ?_
          with_reducible refine (laws_toRing.calls k a0_0 _ _ l0_1 t258 t259 _ ?side1 ?side2 A44.out).mono ?_
          (case side1 => repeat (first | exact (Kd.C_below HR0_1.out HB.out) | (with_reducible refine Kd.C_alloc ?_ _) | (with_reducible refine Kd.C_drewN ?_ _) | (with_reducible refine Kd.C_drew ?_)))
          (case side2 => exact HC0_1.out)
          rintro e w122 ⟨v260, rfl, ho0, hb⟩
          refine ⟨_, rfl, ?_⟩
          have n0_ := Aside0.mk (Kd.R_elder' (rk HO212.out) (Kd.R_base ho0) hb)
          have n1_ := Aside0.mk (Kd.R_elder' (rk HO216.out) (Kd.R_base ho0) hb)
          have n2_ := Aside0.mk (Kd.R_elder' (rk HO220.out) (Kd.R_base ho0) hb)
          have n3_ := Aside0.mk (Kd.R_elder' (rk HO226.out) (Kd.R_base ho0) hb)
          have n4_ := Aside0.mk (Kd.R_elder' (rk HO231.out) (Kd.R_base ho0) hb)
          have n5_ := Aside0.mk (Kd.R_elder' (rk HO236.out) (Kd.R_base ho0) hb)
          have n6_ := Aside0.mk (Kd.R_elder' (rk HO243.out) (Kd.R_base ho0) hb)
          have n7_ := Aside0.mk (Kd.R_elder' (rk HO248.out) (Kd.R_base ho0) hb)
          have n8_ := Aside0.mk (Kd.R_lower (Kd.R_new' (Kd.R_new' (Kd.R_new' (Kd.R_new' (Kd.R_new' (Kd.R_new' (Kd.R_new' (Kd.R_new' ho0 (Kd.R_lt (rk HO212.out))) (Kd.R_lt (rk HO216.out))) (Kd.R_lt (rk HO220.out))) (Kd.R_lt (rk HO226.out))) (Kd.R_lt (rk HO231.out))) (Kd.R_lt (rk HO236.out))) (Kd.R_lt (rk HO243.out))) (Kd.R_lt (rk HO248.out))) (below_size (bks HB.out)))
          have n9_ := Aside0.mk (blk_below (pk BK205.out) hb)
          have n10_ := Aside0.mk (blk_below (pk BK206.out) hb)
          have n11_ := Aside0.mk (blk_below (pk BK222.out) hb)
          have n12_ := Aside0.mk (blk_below (pk BK227.out) hb)
          have n13_ := Aside0.mk (blk_below (pk BK232.out) hb)
          have n14_ := Aside0.mk (blk_below (pk BK238.out) hb)
          have n15_ := Aside0.mk (below_step (bks HB.out) hb)
          clear HO212 HO216 HO220 HO226 HO231 HO236 HO243 HO248 BK205 BK206 BK222 BK227 BK232 BK238 HB
          have HO212 := n0_
          have HO216 := n1_
          have HO220 := n2_
          have HO226 := n3_
          have HO231 := n4_
          have HO236 := n5_
          have HO243 := n6_
          have HO248 := n7_
          have HO261 := n8_
          have BK205 := n9_
          have BK206 := n10_
          have BK222 := n11_
          have BK227 := n12_
          have BK232 := n13_
          have BK238 := n14_
          have HB := n15_
          clear n0_ n1_ n2_ n3_ n4_ n5_ n6_ n7_ n8_ n9_ n10_ n11_ n12_ n13_ n14_ n15_
          (try clear hb)
          (try clear hb2)
          (try clear hk)
          (try clear hi)
          (try clear ho0)
          refine hK.out _ _ ⟨(blk_cell BK205.out 0).trans rfl, (blk_cell BK205.out 1).trans rfl, (blk_cell BK206.out 0).trans rfl, (blk_cell BK206.out 1).trans rfl⟩ (fun hHeld => ?_)
          clear hK K
          refine norm_ (a' := ?_) ?_ ?_
          rotate_left
          · show Act.put _ (some 100) _ = _
            simp only [Act.put, List.setIfInBounds_toArray, List.set_cons_zero, List.set_cons_succ, i64_w, i32_w]
            rfl
          refine two_ (i := 3) (j := 9) (Ni := some 102) (Nj := some 17) #[true, true, true, true, true, false, false, false, false, false, false, false] #[true, true, true, false, true, false, false, false, false, true, false, false] rfl rfl rfl rfl (two_of HT_.out (by kernel_rfl)) (by decide) (by decide) (fun K hK => ?_) (fun K hK => ?_)
          · skip
            refine goes_ Try.func21 (by kernel_rfl) rfl #[.agg #[.int .i64 a1_0, .slice A1_1 l1_1.length c1_1]] (by rfl) rfl rfl (by (try simp only [List.map_toArray, List.map_cons, List.map_nil]); first | done | rfl | (simp only [List.length_drop, List.length_take]; rfl)) ?_
            with_reducible refine (laws_toRing.calls k a1_0 _ _ l1_1 t262 t263 _ ?side1 ?side2 A45.out).mono ?_
            (case side1 => repeat (first | exact (Kd.C_below HR1_1.out HB.out) | (with_reducible refine Kd.C_alloc ?_ _) | (with_reducible refine Kd.C_drewN ?_ _) | (with_reducible refine Kd.C_drew ?_)))
            (case side2 => exact HC1_1.out)
            rintro e w123 ⟨v264, rfl, ho0, hb⟩
            refine ⟨_, rfl, ?_⟩
            have n0_ := Aside0.mk (Kd.R_elder' (rk HO212.out) (Kd.R_base ho0) hb)
            have n1_ := Aside0.mk (Kd.R_elder' (rk HO216.out) (Kd.R_base ho0) hb)
            have n2_ := Aside0.mk (Kd.R_elder' (rk HO220.out) (Kd.R_base ho0) hb)
            have n3_ := Aside0.mk (Kd.R_elder' (rk HO226.out) (Kd.R_base ho0) hb)
            have n4_ := Aside0.mk (Kd.R_elder' (rk HO231.out) (Kd.R_base ho0) hb)
            have n5_ := Aside0.mk (Kd.R_elder' (rk HO236.out) (Kd.R_base ho0) hb)
            have n6_ := Aside0.mk (Kd.R_elder' (rk HO243.out) (Kd.R_base ho0) hb)
            have n7_ := Aside0.mk (Kd.R_elder' (rk HO248.out) (Kd.R_base ho0) hb)
            have n8_ := Aside0.mk (Kd.R_elder' (rk HO261.out) (Kd.R_base ho0) hb)
            have n9_ := Aside0.mk (Kd.R_lower (Kd.R_new' (Kd.R_new' (Kd.R_new' (Kd.R_new' (Kd.R_new' (Kd.R_new' (Kd.R_new' (Kd.R_new' (Kd.R_new' ho0 (Kd.R_lt (rk HO212.out))) (Kd.R_lt (rk HO216.out))) (Kd.R_lt (rk HO220.out))) (Kd.R_lt (rk HO226.out))) (Kd.R_lt (rk HO231.out))) (Kd.R_lt (rk HO236.out))) (Kd.R_lt (rk HO243.out))) (Kd.R_lt (rk HO248.out))) (Kd.R_lt (rk HO261.out))) (below_size (bks HB.out)))
            have n10_ := Aside0.mk (blk_below (pk BK205.out) hb)
            have n11_ := Aside0.mk (blk_below (pk BK206.out) hb)
            have n12_ := Aside0.mk (blk_below (pk BK222.out) hb)
            have n13_ := Aside0.mk (blk_below (pk BK227.out) hb)
            have n14_ := Aside0.mk (blk_below (pk BK232.out) hb)
            have n15_ := Aside0.mk (blk_below (pk BK238.out) hb)
            have n16_ := Aside0.mk (below_step (bks HB.out) hb)
            clear HO212 HO216 HO220 HO226 HO231 HO236 HO243 HO248 HO261 BK205 BK206 BK222 BK227 BK232 BK238 HB
            have HO212 := n0_
            have HO216 := n1_
            have HO220 := n2_
            have HO226 := n3_
            have HO231 := n4_
            have HO236 := n5_
            have HO243 := n6_
            have HO248 := n7_
            have HO261 := n8_
            have HO265 := n9_
            have BK205 := n10_
            have BK206 := n11_
            have BK222 := n12_
            have BK227 := n13_
            have BK232 := n14_
            have BK238 := n15_
            have HB := n16_
            clear n0_ n1_ n2_ n3_ n4_ n5_ n6_ n7_ n8_ n9_ n10_ n11_ n12_ n13_ n14_ n15_ n16_
            (try clear hb)
            (try clear hb2)
            (try clear hk)
            (try clear hi)
            (try clear ho0)
            obtain ⟨Ao124, co124, eo124⟩ := Kd.R_slice HO261.out
            (first | subst eo124 | (injection eo124 with f1_ f2_ f3_; have f4_ := f1_.symm; have f5_ := f3_.symm; clear f1_ f2_ f3_; subst f4_; subst f5_))
            obtain ⟨Ao125, co125, eo125⟩ := Kd.R_slice HO265.out
            (first | subst eo125 | (injection eo125 with f1_ f2_ f3_; have f4_ := f1_.symm; have f5_ := f3_.symm; clear f1_ f2_ f3_; subst f4_; subst f5_))
            refine hK.out _ _ ⟨(blk_cell BK205.out 0).trans rfl, (blk_cell BK205.out 1).trans rfl, (blk_cell BK206.out 0).trans rfl, (blk_cell BK206.out 1).trans rfl⟩ (fun hHeld => ?_)
            clear hK K
            refine norm_ (a' := ?_) ?_ ?_
            rotate_left
            · show Act.put _ (some 102) _ = _
              simp only [Act.put, List.setIfInBounds_toArray, List.set_cons_zero, List.set_cons_succ, i64_w, i32_w]
              rfl
            refine two_ (i := 5) (j := 9) (Ni := some 104) (Nj := some 17) #[true, true, true, true, true, true, false, false, false, false, false, false] #[true, true, true, true, true, false, false, false, false, true, false, false] rfl rfl rfl rfl (two_of HT_.out (by kernel_rfl)) (by decide) (by decide) (fun K hK => ?_) (fun K hK => ?_)
            · skip
              refine goes_ Try.func26 (by kernel_rfl) rfl #[.agg #[.int .i64 t258, .slice Ao124 t259.length co124], .agg #[.int .i64 t262, .slice Ao125 t263.length co125], .int .i64 a2] (by rfl) rfl rfl (by (try simp only [List.map_toArray, List.map_cons, List.map_nil]); first | done | rfl | (simp only [List.length_drop, List.length_take]; rfl)) ?_
              with_reducible refine (impl_AddRings.calls k t258 _ _ t259 t262 _ _ t263 a2 t266 t267 t270 _ ?side1 ?side2 ?side3 ?side4 A46.out).mono ?_
              (case side1 => repeat (first | exact (Kd.R_reads' HO261.out).2.2 | (with_reducible refine Kd.C_alloc ?_ _) | (with_reducible refine Kd.C_drewN ?_ _) | (with_reducible refine Kd.C_drew ?_)))
              (case side2 => exact (Kd.R_reads' HO261.out).2.1)
              (case side3 => repeat (first | exact (Kd.R_reads' HO265.out).2.2 | (with_reducible refine Kd.C_alloc ?_ _) | (with_reducible refine Kd.C_drewN ?_ _) | (with_reducible refine Kd.C_drew ?_)))
              (case side4 => exact (Kd.R_reads' HO265.out).2.1)
              rintro e w126 ⟨v268, rfl, ho0, hb⟩
              refine ⟨_, rfl, ?_⟩
              have n0_ := Aside0.mk (Kd.R_elder' (rk HO212.out) (Kd.R_base ho0) hb)
              have n1_ := Aside0.mk (Kd.R_elder' (rk HO216.out) (Kd.R_base ho0) hb)
              have n2_ := Aside0.mk (Kd.R_elder' (rk HO220.out) (Kd.R_base ho0) hb)
              have n3_ := Aside0.mk (Kd.R_elder' (rk HO226.out) (Kd.R_base ho0) hb)
              have n4_ := Aside0.mk (Kd.R_elder' (rk HO231.out) (Kd.R_base ho0) hb)
              have n5_ := Aside0.mk (Kd.R_elder' (rk HO236.out) (Kd.R_base ho0) hb)
              have n6_ := Aside0.mk (Kd.R_elder' (rk HO243.out) (Kd.R_base ho0) hb)
              have n7_ := Aside0.mk (Kd.R_elder' (rk HO248.out) (Kd.R_base ho0) hb)
              have n8_ := Aside0.mk (Kd.R_elder' (rk HO261.out) (Kd.R_base ho0) hb)
              have n9_ := Aside0.mk (Kd.R_elder' (rk HO265.out) (Kd.R_base ho0) hb)
              have n10_ := Aside0.mk (Kd.R_lower (Kd.R_new' (Kd.R_new' (Kd.R_new' (Kd.R_new' (Kd.R_new' (Kd.R_new' (Kd.R_new' (Kd.R_new' (Kd.R_new' (Kd.R_new' ho0 (Kd.R_lt (rk HO212.out))) (Kd.R_lt (rk HO216.out))) (Kd.R_lt (rk HO220.out))) (Kd.R_lt (rk HO226.out))) (Kd.R_lt (rk HO231.out))) (Kd.R_lt (rk HO236.out))) (Kd.R_lt (rk HO243.out))) (Kd.R_lt (rk HO248.out))) (Kd.R_lt (rk HO261.out))) (Kd.R_lt (rk HO265.out))) (below_size (bks HB.out)))
              have n11_ := Aside0.mk (blk_below (pk BK205.out) hb)
              have n12_ := Aside0.mk (blk_below (pk BK206.out) hb)
              have n13_ := Aside0.mk (blk_below (pk BK222.out) hb)
              have n14_ := Aside0.mk (blk_below (pk BK227.out) hb)
              have n15_ := Aside0.mk (blk_below (pk BK232.out) hb)
              have n16_ := Aside0.mk (blk_below (pk BK238.out) hb)
              have n17_ := Aside0.mk (below_step (bks HB.out) hb)
              clear HO212 HO216 HO220 HO226 HO231 HO236 HO243 HO248 HO261 HO265 BK205 BK206 BK222 BK227 BK232 BK238 HB
              have HO212 := n0_
              have HO216 := n1_
              have HO220 := n2_
              have HO226 := n3_
              have HO231 := n4_
              have HO236 := n5_
              have HO243 := n6_
              have HO248 := n7_
              have HO261 := n8_
              have HO265 := n9_
              have HO269 := n10_
              have BK205 := n11_
              have BK206 := n12_
              have BK222 := n13_
              have BK227 := n14_
              have BK232 := n15_
              have BK238 := n16_
              have HB := n17_
              clear n0_ n1_ n2_ n3_ n4_ n5_ n6_ n7_ n8_ n9_ n10_ n11_ n12_ n13_ n14_ n15_ n16_ n17_
              (try clear hb)
              (try clear hb2)
              (try clear hk)
              (try clear hi)
              (try clear ho0)
              refine hK.out _ _ ⟨(blk_cell BK205.out 0).trans rfl, (blk_cell BK205.out 1).trans rfl, (blk_cell BK206.out 0).trans rfl, (blk_cell BK206.out 1).trans rfl⟩ (fun hHeld => ?_)
              clear hK K
              refine norm_ (a' := ?_) ?_ ?_
              rotate_left
              · show Act.put _ (some 104) _ = _
                simp only [Act.put, List.setIfInBounds_toArray, List.set_cons_zero, List.set_cons_succ, i64_w, i32_w]
                rfl
              refine pure_ (i := 6) (N := some 98) (v := ?_) (a' := ?_) #[true, true, true, true, true, true, true, false, false, false, false, false] rfl rfl (any_of HT_.out (by kernel_rfl)) (fun _ _ _ h => h) (Or.inl ⟨by rfl, ?_⟩) ?_ ?_
              rotate_left
              · intro w'
                go_simp
                with_reducible rfl
              rotate_left
              · simp only [Act.put, List.setIfInBounds_toArray, List.set_cons_zero, List.set_cons_succ, i64_w, i32_w]
                rfl
              refine pure_ (i := 7) (N := some 105) (v := ?_) (a' := ?_) #[true, true, true, true, true, true, true, true, false, false, false, false] rfl rfl (any_of HT_.out (by kernel_rfl)) (fun _ _ _ h => h) (Or.inl ⟨by rfl, ?_⟩) ?_ ?_
              rotate_left
              · intro w'
                go_simp
                with_reducible rfl
              rotate_left
              · simp only [Act.put, List.setIfInBounds_toArray, List.set_cons_zero, List.set_cons_succ, i64_w, i32_w]
                rfl
              refine pure_ (i := 8) (N := some 106) (v := ?_) (a' := ?_) #[true, true, true, true, true, true, true, true, true, false, false, false] rfl rfl (any_of HT_.out (by kernel_rfl)) (fun _ _ _ h => h) (Or.inl ⟨by rfl, ?_⟩) ?_ ?_
              rotate_left
              · intro w'
                go_simp
                with_reducible rfl
              rotate_left
              · simp only [Act.put, List.setIfInBounds_toArray, List.set_cons_zero, List.set_cons_succ, i64_w, i32_w]
                rfl
              refine one_ (i := 9) (N := some 17) #[true, true, true, true, true, true, true, true, true, true, false, false] rfl rfl (one_of HT_.out (by kernel_rfl)) (by decide) (fun K hK => ?_)
              refine box_step ?hg (N := 17) ?hd (cs := #[.int .i64 0, .slice none 0 0]) (t := 24) ?hr ?_; (case hd => rfl); (case hg => rfl); (case hr => first | (go_simp; done) | (go_simp; rfl))
              intro gb271 hg w127 hbox hb
              have n0_ := Aside0.mk (Kd.R_below (rk HO212.out) hb)
              have n1_ := Aside0.mk (Kd.R_below (rk HO216.out) hb)
              have n2_ := Aside0.mk (Kd.R_below (rk HO220.out) hb)
              have n3_ := Aside0.mk (Kd.R_below (rk HO226.out) hb)
              have n4_ := Aside0.mk (Kd.R_below (rk HO231.out) hb)
              have n5_ := Aside0.mk (Kd.R_below (rk HO236.out) hb)
              have n6_ := Aside0.mk (Kd.R_below (rk HO243.out) hb)
              have n7_ := Aside0.mk (Kd.R_below (rk HO248.out) hb)
              have n8_ := Aside0.mk (Kd.R_below (rk HO261.out) hb)
              have n9_ := Aside0.mk (Kd.R_below (rk HO265.out) hb)
              have n10_ := Aside0.mk (Kd.R_below (rk HO269.out) hb)
              have n11_ := Aside0.mk (blk_below (pk BK205.out) hb)
              have n12_ := Aside0.mk (blk_below (pk BK206.out) hb)
              have n13_ := Aside0.mk (blk_below (pk BK222.out) hb)
              have n14_ := Aside0.mk (blk_below (pk BK227.out) hb)
              have n15_ := Aside0.mk (blk_below (pk BK232.out) hb)
              have n16_ := Aside0.mk (blk_below (pk BK238.out) hb)
              have n17_ := Aside0.mk (below_step (bks HB.out) hb)
              have n18_ := Aside0.mk (hbox)
              have n19_ := Aside0.mk ((by rw [hg]; exact (below_size (bks HB.out)) : w.heap.size ≤ gb271))
              have n20_ := Aside0.mk ((by rw [hg]; exact (below_size (bks HB.out)) : w.heap.size ≤ gb271))
              have n21_ := Aside0.mk ((by rw [hg]; exact Nat.ne_of_lt (blk_lt (g := gb205) (o := .cells #[.int .i64 a0_0, .slice A0_1 l0_1.length c0_1] 32 (0, 0)) (pk BK205.out)) : gb205 ≠ gb271))
              have n22_ := Aside0.mk ((by rw [hg]; exact Nat.ne_of_gt (blk_lt (g := gb205) (o := .cells #[.int .i64 a0_0, .slice A0_1 l0_1.length c0_1] 32 (0, 0)) (pk BK205.out)) : gb271 ≠ gb205))
              have n23_ := Aside0.mk ((by rw [hg]; exact Nat.ne_of_lt (blk_lt (g := gb206) (o := .cells #[.int .i64 a1_0, .slice A1_1 l1_1.length c1_1] 32 (0, 0)) (pk BK206.out)) : gb206 ≠ gb271))
              have n24_ := Aside0.mk ((by rw [hg]; exact Nat.ne_of_gt (blk_lt (g := gb206) (o := .cells #[.int .i64 a1_0, .slice A1_1 l1_1.length c1_1] 32 (0, 0)) (pk BK206.out)) : gb271 ≠ gb206))
              have n25_ := Aside0.mk ((by rw [hg]; exact Nat.ne_of_lt (blk_lt (g := gb222) (o := .cells #[.int .i64 t217, .slice Ao69 t218.length co69] 24 (0, 0)) (pk BK222.out)) : gb222 ≠ gb271))
              have n26_ := Aside0.mk ((by rw [hg]; exact Nat.ne_of_gt (blk_lt (g := gb222) (o := .cells #[.int .i64 t217, .slice Ao69 t218.length co69] 24 (0, 0)) (pk BK222.out)) : gb271 ≠ gb222))
              have n27_ := Aside0.mk ((by rw [hg]; exact Nat.ne_of_lt (blk_lt (g := gb227) (o := .cells #[.int .i64 t223, .slice Ao79 t224.length co79] 24 (0, 0)) (pk BK227.out)) : gb227 ≠ gb271))
              have n28_ := Aside0.mk ((by rw [hg]; exact Nat.ne_of_gt (blk_lt (g := gb227) (o := .cells #[.int .i64 t223, .slice Ao79 t224.length co79] 24 (0, 0)) (pk BK227.out)) : gb271 ≠ gb227))
              have n29_ := Aside0.mk ((by rw [hg]; exact Nat.ne_of_lt (blk_lt (g := gb232) (o := .cells #[.int .i64 t228, .slice Ao89 t229.length co89] 24 (0, 0)) (pk BK232.out)) : gb232 ≠ gb271))
              have n30_ := Aside0.mk ((by rw [hg]; exact Nat.ne_of_gt (blk_lt (g := gb232) (o := .cells #[.int .i64 t228, .slice Ao89 t229.length co89] 24 (0, 0)) (pk BK232.out)) : gb271 ≠ gb232))
              have n31_ := Aside0.mk ((by rw [hg]; exact Nat.ne_of_lt (blk_lt (g := gb238) (o := .cells #[.int .i64 t233, .slice Ao99 t234.length co99] 24 (0, 0)) (pk BK238.out)) : gb238 ≠ gb271))
              have n32_ := Aside0.mk ((by rw [hg]; exact Nat.ne_of_gt (blk_lt (g := gb238) (o := .cells #[.int .i64 t233, .slice Ao99 t234.length co99] 24 (0, 0)) (pk BK238.out)) : gb271 ≠ gb238))
              clear HO212 HO216 HO220 HO226 HO231 HO236 HO243 HO248 HO261 HO265 HO269 BK205 BK206 BK222 BK227 BK232 BK238 HB
              have HO212 := n0_
              have HO216 := n1_
              have HO220 := n2_
              have HO226 := n3_
              have HO231 := n4_
              have HO236 := n5_
              have HO243 := n6_
              have HO248 := n7_
              have HO261 := n8_
              have HO265 := n9_
              have HO269 := n10_
              have BK205 := n11_
              have BK206 := n12_
              have BK222 := n13_
              have BK227 := n14_
              have BK232 := n15_
              have BK238 := n16_
              have HB := n17_
              have BK271 := n18_
              have GW271 := n19_
              have GE271 := n20_
              have NB205_271 := n21_
              have NB271_205 := n22_
              have NB206_271 := n23_
              have NB271_206 := n24_
              have NB222_271 := n25_
              have NB271_222 := n26_
              have NB227_271 := n27_
              have NB271_227 := n28_
              have NB232_271 := n29_
              have NB271_232 := n30_
              have NB238_271 := n31_
              have NB271_238 := n32_
              clear n0_ n1_ n2_ n3_ n4_ n5_ n6_ n7_ n8_ n9_ n10_ n11_ n12_ n13_ n14_ n15_ n16_ n17_ n18_ n19_ n20_ n21_ n22_ n23_ n24_ n25_ n26_ n27_ n28_ n29_ n30_ n31_ n32_ hb hbox hg
              refine hK.out _ _ ⟨(blk_cell BK205.out 0).trans rfl, (blk_cell BK205.out 1).trans rfl, (blk_cell BK206.out 0).trans rfl, (blk_cell BK206.out 1).trans rfl⟩ (fun hHeld => ?_)
              clear hK K
              refine norm_ (a' := ?_) ?_ ?_
              rotate_left
              · show Act.put _ (some 17) _ = _
                simp only [Act.put, List.setIfInBounds_toArray, List.set_cons_zero, List.set_cons_succ, i64_w, i32_w]
                rfl
              exact norm_ (by simp only [putAll, Act.put, List.setIfInBounds_toArray, List.set_cons_zero, List.set_cons_succ]) (hCont (.slice Ao124 t259.length co124, .slice Ao125 t263.length co125, v268, gb271) _ ⟨hHeld, (by (with_reducible repeat (first | apply Kd.R_alloc | apply Kd.R_drewN | apply Kd.R_drew)); exact Kd.R_mono HO212.out (fun _ hk => ⟨hk.1.1.1.1, ⟨hk.1.1.1.2.1, ⟨hk.1.1.1.2.2.1, ⟨hk.1.1.1.2.2.2.1, ⟨hk.1.1.1.2.2.2.2.1, ⟨hk.1.1.1.2.2.2.2.2.1, ⟨hk.1.1.1.2.2.2.2.2.2, ⟨hk.1.1.2, ⟨hk.1.2, hk.2⟩⟩⟩⟩⟩⟩⟩⟩⟩)), (by (with_reducible repeat (first | apply Kd.R_alloc | apply Kd.R_drewN | apply Kd.R_drew)); exact Kd.R_mono HO216.out (fun _ hk => ⟨hk.1.1.1.1, ⟨hk.1.1.1.2.1, ⟨hk.1.1.1.2.2.1, ⟨hk.1.1.1.2.2.2.1, ⟨hk.1.1.1.2.2.2.2.1, ⟨hk.1.1.1.2.2.2.2.2.1, ⟨hk.1.1.1.2.2.2.2.2.2, ⟨hk.1.1.2, ⟨hk.1.2, hk.2⟩⟩⟩⟩⟩⟩⟩⟩⟩)), (by (with_reducible repeat (first | apply Kd.R_alloc | apply Kd.R_drewN | apply Kd.R_drew)); exact Kd.R_mono HO220.out (fun _ hk => ⟨hk.1.1.1.1, ⟨hk.1.1.1.2.1, ⟨hk.1.1.1.2.2.1, ⟨hk.1.1.1.2.2.2.1, ⟨hk.1.1.1.2.2.2.2.1, ⟨hk.1.1.1.2.2.2.2.2.1, ⟨hk.1.1.1.2.2.2.2.2.2, ⟨hk.1.1.2, ⟨hk.1.2, hk.2⟩⟩⟩⟩⟩⟩⟩⟩⟩)), (by (with_reducible repeat (first | apply Kd.R_alloc | apply Kd.R_drewN | apply Kd.R_drew)); exact Kd.R_mono HO226.out (fun _ hk => ⟨hk.1.1.1.1, ⟨hk.1.1.1.2.1, ⟨hk.1.1.1.2.2.1, ⟨hk.1.1.1.2.2.2.1, ⟨hk.1.1.1.2.2.2.2.1, ⟨hk.1.1.1.2.2.2.2.2.1, ⟨hk.1.1.1.2.2.2.2.2.2, ⟨hk.1.1.2, ⟨hk.1.2, hk.2⟩⟩⟩⟩⟩⟩⟩⟩⟩)), (by (with_reducible repeat (first | apply Kd.R_alloc | apply Kd.R_drewN | apply Kd.R_drew)); exact Kd.R_mono HO231.out (fun _ hk => ⟨hk.1.1.1.1, ⟨hk.1.1.1.2.1, ⟨hk.1.1.1.2.2.1, ⟨hk.1.1.1.2.2.2.1, ⟨hk.1.1.1.2.2.2.2.1, ⟨hk.1.1.1.2.2.2.2.2.1, ⟨hk.1.1.1.2.2.2.2.2.2, ⟨hk.1.1.2, ⟨hk.1.2, hk.2⟩⟩⟩⟩⟩⟩⟩⟩⟩)), (by (with_reducible repeat (first | apply Kd.R_alloc | apply Kd.R_drewN | apply Kd.R_drew)); exact Kd.R_mono HO236.out (fun _ hk => ⟨hk.1.1.1.1, ⟨hk.1.1.1.2.1, ⟨hk.1.1.1.2.2.1, ⟨hk.1.1.1.2.2.2.1, ⟨hk.1.1.1.2.2.2.2.1, ⟨hk.1.1.1.2.2.2.2.2.1, ⟨hk.1.1.1.2.2.2.2.2.2, ⟨hk.1.1.2, ⟨hk.1.2, hk.2⟩⟩⟩⟩⟩⟩⟩⟩⟩)), (by (with_reducible repeat (first | apply Kd.R_alloc | apply Kd.R_drewN | apply Kd.R_drew)); exact Kd.R_mono HO243.out (fun _ hk => ⟨hk.1.1.1.1, ⟨hk.1.1.1.2.1, ⟨hk.1.1.1.2.2.1, ⟨hk.1.1.1.2.2.2.1, ⟨hk.1.1.1.2.2.2.2.1, ⟨hk.1.1.1.2.2.2.2.2.1, ⟨hk.1.1.1.2.2.2.2.2.2, ⟨hk.1.1.2, ⟨hk.1.2, hk.2⟩⟩⟩⟩⟩⟩⟩⟩⟩)), (by (with_reducible repeat (first | apply Kd.R_alloc | apply Kd.R_drewN | apply Kd.R_drew)); exact Kd.R_mono HO248.out (fun _ hk => ⟨hk.1.1.1.1, ⟨hk.1.1.1.2.1, ⟨hk.1.1.1.2.2.1, ⟨hk.1.1.1.2.2.2.1, ⟨hk.1.1.1.2.2.2.2.1, ⟨hk.1.1.1.2.2.2.2.2.1, ⟨hk.1.1.1.2.2.2.2.2.2, ⟨hk.1.1.2, ⟨hk.1.2, hk.2⟩⟩⟩⟩⟩⟩⟩⟩⟩)), (by (with_reducible repeat (first | apply Kd.R_alloc | apply Kd.R_drewN | apply Kd.R_drew)); exact Kd.R_mono HO261.out (fun _ hk => ⟨hk.1.1.1.1.1.1.1.1.1.2, ⟨hk.1.1.1.1.1.1.1.1.2, ⟨hk.1.1.1.1.1.1.1.2, ⟨hk.1.1.1.1.1.1.2, ⟨hk.1.1.1.1.1.2, ⟨hk.1.1.1.1.2, ⟨hk.1.1.1.2, ⟨hk.1.1.2, ⟨hk.1.2, hk.2⟩⟩⟩⟩⟩⟩⟩⟩⟩)), (by (with_reducible repeat (first | apply Kd.R_alloc | apply Kd.R_drewN | apply Kd.R_drew)); exact Kd.R_mono HO265.out (fun _ hk => ⟨hk.1.1.1.1.1.1.1.1.1.2, ⟨hk.1.1.1.1.1.1.1.1.2, ⟨hk.1.1.1.1.1.1.1.2, ⟨hk.1.1.1.1.1.1.2, ⟨hk.1.1.1.1.1.2, ⟨hk.1.1.1.1.2, ⟨hk.1.1.1.2, ⟨hk.1.1.2, ⟨hk.1.2, hk.2⟩⟩⟩⟩⟩⟩⟩⟩⟩)), (by (with_reducible repeat (first | apply Kd.R_alloc | apply Kd.R_drewN | apply Kd.R_drew)); exact Kd.R_mono HO269.out (fun _ hk => ⟨hk.1.1.1.1.1.1.1.1.1.2, ⟨hk.1.1.1.1.1.1.1.1.2, ⟨hk.1.1.1.1.1.1.1.2, ⟨hk.1.1.1.1.1.1.2, ⟨hk.1.1.1.1.1.2, ⟨hk.1.1.1.1.2, ⟨hk.1.1.1.2, ⟨hk.1.1.2, ⟨hk.1.2, hk.2⟩⟩⟩⟩⟩⟩⟩⟩⟩)), (pk BK205.out), (pk BK206.out), (pk BK222.out), (pk BK227.out), (pk BK232.out), (pk BK238.out), (pk BK271.out), GW271.out, GE271.out, NB205_271.out, NB271_205.out, NB206_271.out, NB271_206.out, NB222_271.out, NB271_222.out, NB227_271.out, NB271_227.out, NB232_271.out, NB271_232.out, NB238_271.out, NB271_238.out, (bks HB.out)⟩)
            · skip
              refine box_step ?hg (N := 17) ?hd (cs := #[.int .i64 0, .slice none 0 0]) (t := 24) ?hr ?_; (case hd => rfl); (case hg => rfl); (case hr => first | (go_simp; done) | (go_simp; rfl))
              intro gb271 hg w124 hbox hb
              have n0_ := Aside0.mk (Kd.R_below (rk HO212.out) hb)
              have n1_ := Aside0.mk (Kd.R_below (rk HO216.out) hb)
              have n2_ := Aside0.mk (Kd.R_below (rk HO220.out) hb)
              have n3_ := Aside0.mk (Kd.R_below (rk HO226.out) hb)
              have n4_ := Aside0.mk (Kd.R_below (rk HO231.out) hb)
              have n5_ := Aside0.mk (Kd.R_below (rk HO236.out) hb)
              have n6_ := Aside0.mk (Kd.R_below (rk HO243.out) hb)
              have n7_ := Aside0.mk (Kd.R_below (rk HO248.out) hb)
              have n8_ := Aside0.mk (Kd.R_below (rk HO261.out) hb)
              have n9_ := Aside0.mk (Kd.R_below (rk HO265.out) hb)
              have n10_ := Aside0.mk (blk_below (pk BK205.out) hb)
              have n11_ := Aside0.mk (blk_below (pk BK206.out) hb)
              have n12_ := Aside0.mk (blk_below (pk BK222.out) hb)
              have n13_ := Aside0.mk (blk_below (pk BK227.out) hb)
              have n14_ := Aside0.mk (blk_below (pk BK232.out) hb)
              have n15_ := Aside0.mk (blk_below (pk BK238.out) hb)
              have n16_ := Aside0.mk (below_step (bks HB.out) hb)
              have n17_ := Aside0.mk (hbox)
              have n18_ := Aside0.mk ((by rw [hg]; exact (below_size (bks HB.out)) : w.heap.size ≤ gb271))
              have n19_ := Aside0.mk ((by rw [hg]; exact (below_size (bks HB.out)) : w.heap.size ≤ gb271))
              have n20_ := Aside0.mk ((by rw [hg]; exact Nat.ne_of_lt (blk_lt (g := gb205) (o := .cells #[.int .i64 a0_0, .slice A0_1 l0_1.length c0_1] 32 (0, 0)) (pk BK205.out)) : gb205 ≠ gb271))
              have n21_ := Aside0.mk ((by rw [hg]; exact Nat.ne_of_gt (blk_lt (g := gb205) (o := .cells #[.int .i64 a0_0, .slice A0_1 l0_1.length c0_1] 32 (0, 0)) (pk BK205.out)) : gb271 ≠ gb205))
              have n22_ := Aside0.mk ((by rw [hg]; exact Nat.ne_of_lt (blk_lt (g := gb206) (o := .cells #[.int .i64 a1_0, .slice A1_1 l1_1.length c1_1] 32 (0, 0)) (pk BK206.out)) : gb206 ≠ gb271))
              have n23_ := Aside0.mk ((by rw [hg]; exact Nat.ne_of_gt (blk_lt (g := gb206) (o := .cells #[.int .i64 a1_0, .slice A1_1 l1_1.length c1_1] 32 (0, 0)) (pk BK206.out)) : gb271 ≠ gb206))
              have n24_ := Aside0.mk ((by rw [hg]; exact Nat.ne_of_lt (blk_lt (g := gb222) (o := .cells #[.int .i64 t217, .slice Ao69 t218.length co69] 24 (0, 0)) (pk BK222.out)) : gb222 ≠ gb271))
              have n25_ := Aside0.mk ((by rw [hg]; exact Nat.ne_of_gt (blk_lt (g := gb222) (o := .cells #[.int .i64 t217, .slice Ao69 t218.length co69] 24 (0, 0)) (pk BK222.out)) : gb271 ≠ gb222))
              have n26_ := Aside0.mk ((by rw [hg]; exact Nat.ne_of_lt (blk_lt (g := gb227) (o := .cells #[.int .i64 t223, .slice Ao79 t224.length co79] 24 (0, 0)) (pk BK227.out)) : gb227 ≠ gb271))
              have n27_ := Aside0.mk ((by rw [hg]; exact Nat.ne_of_gt (blk_lt (g := gb227) (o := .cells #[.int .i64 t223, .slice Ao79 t224.length co79] 24 (0, 0)) (pk BK227.out)) : gb271 ≠ gb227))
              have n28_ := Aside0.mk ((by rw [hg]; exact Nat.ne_of_lt (blk_lt (g := gb232) (o := .cells #[.int .i64 t228, .slice Ao89 t229.length co89] 24 (0, 0)) (pk BK232.out)) : gb232 ≠ gb271))
              have n29_ := Aside0.mk ((by rw [hg]; exact Nat.ne_of_gt (blk_lt (g := gb232) (o := .cells #[.int .i64 t228, .slice Ao89 t229.length co89] 24 (0, 0)) (pk BK232.out)) : gb271 ≠ gb232))
              have n30_ := Aside0.mk ((by rw [hg]; exact Nat.ne_of_lt (blk_lt (g := gb238) (o := .cells #[.int .i64 t233, .slice Ao99 t234.length co99] 24 (0, 0)) (pk BK238.out)) : gb238 ≠ gb271))
              have n31_ := Aside0.mk ((by rw [hg]; exact Nat.ne_of_gt (blk_lt (g := gb238) (o := .cells #[.int .i64 t233, .slice Ao99 t234.length co99] 24 (0, 0)) (pk BK238.out)) : gb271 ≠ gb238))
              clear HO212 HO216 HO220 HO226 HO231 HO236 HO243 HO248 HO261 HO265 BK205 BK206 BK222 BK227 BK232 BK238 HB
              have HO212 := n0_
              have HO216 := n1_
              have HO220 := n2_
              have HO226 := n3_
              have HO231 := n4_
              have HO236 := n5_
              have HO243 := n6_
              have HO248 := n7_
              have HO261 := n8_
              have HO265 := n9_
              have BK205 := n10_
              have BK206 := n11_
              have BK222 := n12_
              have BK227 := n13_
              have BK232 := n14_
              have BK238 := n15_
              have HB := n16_
              have BK271 := n17_
              have GW271 := n18_
              have GE271 := n19_
              have NB205_271 := n20_
              have NB271_205 := n21_
              have NB206_271 := n22_
              have NB271_206 := n23_
              have NB222_271 := n24_
              have NB271_222 := n25_
              have NB227_271 := n26_
              have NB271_227 := n27_
              have NB232_271 := n28_
              have NB271_232 := n29_
              have NB238_271 := n30_
              have NB271_238 := n31_
              clear n0_ n1_ n2_ n3_ n4_ n5_ n6_ n7_ n8_ n9_ n10_ n11_ n12_ n13_ n14_ n15_ n16_ n17_ n18_ n19_ n20_ n21_ n22_ n23_ n24_ n25_ n26_ n27_ n28_ n29_ n30_ n31_ hb hbox hg
              obtain ⟨Ao125, co125, eo125⟩ := Kd.R_slice HO261.out
              (first | subst eo125 | (injection eo125 with f1_ f2_ f3_; have f4_ := f1_.symm; have f5_ := f3_.symm; clear f1_ f2_ f3_; subst f4_; subst f5_))
              obtain ⟨Ao126, co126, eo126⟩ := Kd.R_slice HO265.out
              (first | subst eo126 | (injection eo126 with f1_ f2_ f3_; have f4_ := f1_.symm; have f5_ := f3_.symm; clear f1_ f2_ f3_; subst f4_; subst f5_))
              refine hK.out _ _ ⟨(blk_cell BK205.out 0).trans rfl, (blk_cell BK205.out 1).trans rfl, (blk_cell BK206.out 0).trans rfl, (blk_cell BK206.out 1).trans rfl⟩ (fun hHeld => ?_)
              clear hK K
              refine norm_ (a' := ?_) ?_ ?_
              rotate_left
              · show Act.put _ (some 17) _ = _
                simp only [Act.put, List.setIfInBounds_toArray, List.set_cons_zero, List.set_cons_succ, i64_w, i32_w]
                rfl
              refine one_ (i := 5) (N := some 104) #[true, true, true, true, true, true, false, false, false, true, false, false] rfl rfl (one_of HT_.out (by kernel_rfl)) (by decide) (fun K hK => ?_)
              refine goes_ Try.func26 (by kernel_rfl) rfl #[.agg #[.int .i64 t258, .slice Ao125 t259.length co125], .agg #[.int .i64 t262, .slice Ao126 t263.length co126], .int .i64 a2] (by rfl) rfl rfl (by (try simp only [List.map_toArray, List.map_cons, List.map_nil]); first | done | rfl | (simp only [List.length_drop, List.length_take]; rfl)) ?_
              with_reducible refine (impl_AddRings.calls k t258 _ _ t259 t262 _ _ t263 a2 t266 t267 t270 _ ?side1 ?side2 ?side3 ?side4 A46.out).mono ?_
              (case side1 => repeat (first | exact (Kd.R_reads' HO261.out).2.2 | (with_reducible refine Kd.C_alloc ?_ _) | (with_reducible refine Kd.C_drewN ?_ _) | (with_reducible refine Kd.C_drew ?_)))
              (case side2 => exact (Kd.R_reads' HO261.out).2.1)
              (case side3 => repeat (first | exact (Kd.R_reads' HO265.out).2.2 | (with_reducible refine Kd.C_alloc ?_ _) | (with_reducible refine Kd.C_drewN ?_ _) | (with_reducible refine Kd.C_drew ?_)))
              (case side4 => exact (Kd.R_reads' HO265.out).2.1)
              rintro e w127 ⟨v268, rfl, ho0, hb⟩
              refine ⟨_, rfl, ?_⟩
              have n0_ := Aside0.mk (Kd.R_elder' (rk HO212.out) (Kd.R_base ho0) hb)
              have n1_ := Aside0.mk (Kd.R_elder' (rk HO216.out) (Kd.R_base ho0) hb)
              have n2_ := Aside0.mk (Kd.R_elder' (rk HO220.out) (Kd.R_base ho0) hb)
              have n3_ := Aside0.mk (Kd.R_elder' (rk HO226.out) (Kd.R_base ho0) hb)
              have n4_ := Aside0.mk (Kd.R_elder' (rk HO231.out) (Kd.R_base ho0) hb)
              have n5_ := Aside0.mk (Kd.R_elder' (rk HO236.out) (Kd.R_base ho0) hb)
              have n6_ := Aside0.mk (Kd.R_elder' (rk HO243.out) (Kd.R_base ho0) hb)
              have n7_ := Aside0.mk (Kd.R_elder' (rk HO248.out) (Kd.R_base ho0) hb)
              have n8_ := Aside0.mk (Kd.R_elder' (rk HO261.out) (Kd.R_base ho0) hb)
              have n9_ := Aside0.mk (Kd.R_elder' (rk HO265.out) (Kd.R_base ho0) hb)
              have n10_ := Aside0.mk (Kd.R_lower (Kd.R_new' (Kd.R_new' (Kd.R_new' (Kd.R_new' (Kd.R_new' (Kd.R_new' (Kd.R_new' (Kd.R_new' (Kd.R_new' (Kd.R_new' ho0 (Kd.R_lt (rk HO212.out))) (Kd.R_lt (rk HO216.out))) (Kd.R_lt (rk HO220.out))) (Kd.R_lt (rk HO226.out))) (Kd.R_lt (rk HO231.out))) (Kd.R_lt (rk HO236.out))) (Kd.R_lt (rk HO243.out))) (Kd.R_lt (rk HO248.out))) (Kd.R_lt (rk HO261.out))) (Kd.R_lt (rk HO265.out))) (below_size (bks HB.out)))
              have n11_ := Aside0.mk (blk_below (pk BK205.out) hb)
              have n12_ := Aside0.mk (blk_below (pk BK206.out) hb)
              have n13_ := Aside0.mk (blk_below (pk BK222.out) hb)
              have n14_ := Aside0.mk (blk_below (pk BK227.out) hb)
              have n15_ := Aside0.mk (blk_below (pk BK232.out) hb)
              have n16_ := Aside0.mk (blk_below (pk BK238.out) hb)
              have n17_ := Aside0.mk (blk_below (pk BK271.out) hb)
              have n18_ := Aside0.mk (below_step (bks HB.out) hb)
              clear HO212 HO216 HO220 HO226 HO231 HO236 HO243 HO248 HO261 HO265 BK205 BK206 BK222 BK227 BK232 BK238 BK271 HB
              have HO212 := n0_
              have HO216 := n1_
              have HO220 := n2_
              have HO226 := n3_
              have HO231 := n4_
              have HO236 := n5_
              have HO243 := n6_
              have HO248 := n7_
              have HO261 := n8_
              have HO265 := n9_
              have HO269 := n10_
              have BK205 := n11_
              have BK206 := n12_
              have BK222 := n13_
              have BK227 := n14_
              have BK232 := n15_
              have BK238 := n16_
              have BK271 := n17_
              have HB := n18_
              clear n0_ n1_ n2_ n3_ n4_ n5_ n6_ n7_ n8_ n9_ n10_ n11_ n12_ n13_ n14_ n15_ n16_ n17_ n18_
              (try clear hb)
              (try clear hb2)
              (try clear hk)
              (try clear hi)
              (try clear ho0)
              refine hK.out _ _ ⟨(blk_cell BK205.out 0).trans rfl, (blk_cell BK205.out 1).trans rfl, (blk_cell BK206.out 0).trans rfl, (blk_cell BK206.out 1).trans rfl⟩ (fun hHeld => ?_)
              clear hK K
              refine norm_ (a' := ?_) ?_ ?_
              rotate_left
              · show Act.put _ (some 104) _ = _
                simp only [Act.put, List.setIfInBounds_toArray, List.set_cons_zero, List.set_cons_succ, i64_w, i32_w]
                rfl
              refine pure_ (i := 6) (N := some 98) (v := ?_) (a' := ?_) #[true, true, true, true, true, true, true, false, false, true, false, false] rfl rfl (any_of HT_.out (by kernel_rfl)) (fun _ _ _ h => h) (Or.inl ⟨by rfl, ?_⟩) ?_ ?_
              rotate_left
              · intro w'
                go_simp
                with_reducible rfl
              rotate_left
              · simp only [Act.put, List.setIfInBounds_toArray, List.set_cons_zero, List.set_cons_succ, i64_w, i32_w]
                rfl
              refine pure_ (i := 7) (N := some 105) (v := ?_) (a' := ?_) #[true, true, true, true, true, true, true, true, false, true, false, false] rfl rfl (any_of HT_.out (by kernel_rfl)) (fun _ _ _ h => h) (Or.inl ⟨by rfl, ?_⟩) ?_ ?_
              rotate_left
              · intro w'
                go_simp
                with_reducible rfl
              rotate_left
              · simp only [Act.put, List.setIfInBounds_toArray, List.set_cons_zero, List.set_cons_succ, i64_w, i32_w]
                rfl
              refine pure_ (i := 8) (N := some 106) (v := ?_) (a' := ?_) #[true, true, true, true, true, true, true, true, true, true, false, false] rfl rfl (any_of HT_.out (by kernel_rfl)) (fun _ _ _ h => h) (Or.inl ⟨by rfl, ?_⟩) ?_ ?_
              rotate_left
              · intro w'
                go_simp
                with_reducible rfl
              rotate_left
              · simp only [Act.put, List.setIfInBounds_toArray, List.set_cons_zero, List.set_cons_succ, i64_w, i32_w]
                rfl
              exact norm_ (by simp only [putAll, Act.put, List.setIfInBounds_toArray, List.set_cons_zero, List.set_cons_succ]) (hCont (.slice Ao125 t259.length co125, .slice Ao126 t263.length co126, v268, gb271) _ ⟨hHeld, (by (with_reducible repeat (first | apply Kd.R_alloc | apply Kd.R_drewN | apply Kd.R_drew)); exact Kd.R_mono HO212.out (fun _ hk => ⟨hk.1.1.1.1, ⟨hk.1.1.1.2.1, ⟨hk.1.1.1.2.2.1, ⟨hk.1.1.1.2.2.2.1, ⟨hk.1.1.1.2.2.2.2.1, ⟨hk.1.1.1.2.2.2.2.2.1, ⟨hk.1.1.1.2.2.2.2.2.2, ⟨hk.1.1.2, ⟨hk.1.2, hk.2⟩⟩⟩⟩⟩⟩⟩⟩⟩)), (by (with_reducible repeat (first | apply Kd.R_alloc | apply Kd.R_drewN | apply Kd.R_drew)); exact Kd.R_mono HO216.out (fun _ hk => ⟨hk.1.1.1.1, ⟨hk.1.1.1.2.1, ⟨hk.1.1.1.2.2.1, ⟨hk.1.1.1.2.2.2.1, ⟨hk.1.1.1.2.2.2.2.1, ⟨hk.1.1.1.2.2.2.2.2.1, ⟨hk.1.1.1.2.2.2.2.2.2, ⟨hk.1.1.2, ⟨hk.1.2, hk.2⟩⟩⟩⟩⟩⟩⟩⟩⟩)), (by (with_reducible repeat (first | apply Kd.R_alloc | apply Kd.R_drewN | apply Kd.R_drew)); exact Kd.R_mono HO220.out (fun _ hk => ⟨hk.1.1.1.1, ⟨hk.1.1.1.2.1, ⟨hk.1.1.1.2.2.1, ⟨hk.1.1.1.2.2.2.1, ⟨hk.1.1.1.2.2.2.2.1, ⟨hk.1.1.1.2.2.2.2.2.1, ⟨hk.1.1.1.2.2.2.2.2.2, ⟨hk.1.1.2, ⟨hk.1.2, hk.2⟩⟩⟩⟩⟩⟩⟩⟩⟩)), (by (with_reducible repeat (first | apply Kd.R_alloc | apply Kd.R_drewN | apply Kd.R_drew)); exact Kd.R_mono HO226.out (fun _ hk => ⟨hk.1.1.1.1, ⟨hk.1.1.1.2.1, ⟨hk.1.1.1.2.2.1, ⟨hk.1.1.1.2.2.2.1, ⟨hk.1.1.1.2.2.2.2.1, ⟨hk.1.1.1.2.2.2.2.2.1, ⟨hk.1.1.1.2.2.2.2.2.2, ⟨hk.1.1.2, ⟨hk.1.2, hk.2⟩⟩⟩⟩⟩⟩⟩⟩⟩)), (by (with_reducible repeat (first | apply Kd.R_alloc | apply Kd.R_drewN | apply Kd.R_drew)); exact Kd.R_mono HO231.out (fun _ hk => ⟨hk.1.1.1.1, ⟨hk.1.1.1.2.1, ⟨hk.1.1.1.2.2.1, ⟨hk.1.1.1.2.2.2.1, ⟨hk.1.1.1.2.2.2.2.1, ⟨hk.1.1.1.2.2.2.2.2.1, ⟨hk.1.1.1.2.2.2.2.2.2, ⟨hk.1.1.2, ⟨hk.1.2, hk.2⟩⟩⟩⟩⟩⟩⟩⟩⟩)), (by (with_reducible repeat (first | apply Kd.R_alloc | apply Kd.R_drewN | apply Kd.R_drew)); exact Kd.R_mono HO236.out (fun _ hk => ⟨hk.1.1.1.1, ⟨hk.1.1.1.2.1, ⟨hk.1.1.1.2.2.1, ⟨hk.1.1.1.2.2.2.1, ⟨hk.1.1.1.2.2.2.2.1, ⟨hk.1.1.1.2.2.2.2.2.1, ⟨hk.1.1.1.2.2.2.2.2.2, ⟨hk.1.1.2, ⟨hk.1.2, hk.2⟩⟩⟩⟩⟩⟩⟩⟩⟩)), (by (with_reducible repeat (first | apply Kd.R_alloc | apply Kd.R_drewN | apply Kd.R_drew)); exact Kd.R_mono HO243.out (fun _ hk => ⟨hk.1.1.1.1, ⟨hk.1.1.1.2.1, ⟨hk.1.1.1.2.2.1, ⟨hk.1.1.1.2.2.2.1, ⟨hk.1.1.1.2.2.2.2.1, ⟨hk.1.1.1.2.2.2.2.2.1, ⟨hk.1.1.1.2.2.2.2.2.2, ⟨hk.1.1.2, ⟨hk.1.2, hk.2⟩⟩⟩⟩⟩⟩⟩⟩⟩)), (by (with_reducible repeat (first | apply Kd.R_alloc | apply Kd.R_drewN | apply Kd.R_drew)); exact Kd.R_mono HO248.out (fun _ hk => ⟨hk.1.1.1.1, ⟨hk.1.1.1.2.1, ⟨hk.1.1.1.2.2.1, ⟨hk.1.1.1.2.2.2.1, ⟨hk.1.1.1.2.2.2.2.1, ⟨hk.1.1.1.2.2.2.2.2.1, ⟨hk.1.1.1.2.2.2.2.2.2, ⟨hk.1.1.2, ⟨hk.1.2, hk.2⟩⟩⟩⟩⟩⟩⟩⟩⟩)), (by (with_reducible repeat (first | apply Kd.R_alloc | apply Kd.R_drewN | apply Kd.R_drew)); exact Kd.R_mono HO261.out (fun _ hk => ⟨hk.1.1.1.1.1.1.1.1.1.2, ⟨hk.1.1.1.1.1.1.1.1.2, ⟨hk.1.1.1.1.1.1.1.2, ⟨hk.1.1.1.1.1.1.2, ⟨hk.1.1.1.1.1.2, ⟨hk.1.1.1.1.2, ⟨hk.1.1.1.2, ⟨hk.1.1.2, ⟨hk.1.2, hk.2⟩⟩⟩⟩⟩⟩⟩⟩⟩)), (by (with_reducible repeat (first | apply Kd.R_alloc | apply Kd.R_drewN | apply Kd.R_drew)); exact Kd.R_mono HO265.out (fun _ hk => ⟨hk.1.1.1.1.1.1.1.1.1.2, ⟨hk.1.1.1.1.1.1.1.1.2, ⟨hk.1.1.1.1.1.1.1.2, ⟨hk.1.1.1.1.1.1.2, ⟨hk.1.1.1.1.1.2, ⟨hk.1.1.1.1.2, ⟨hk.1.1.1.2, ⟨hk.1.1.2, ⟨hk.1.2, hk.2⟩⟩⟩⟩⟩⟩⟩⟩⟩)), (by (with_reducible repeat (first | apply Kd.R_alloc | apply Kd.R_drewN | apply Kd.R_drew)); exact Kd.R_mono HO269.out (fun _ hk => ⟨hk.1.1.1.1.1.1.1.1.1.2, ⟨hk.1.1.1.1.1.1.1.1.2, ⟨hk.1.1.1.1.1.1.1.2, ⟨hk.1.1.1.1.1.1.2, ⟨hk.1.1.1.1.1.2, ⟨hk.1.1.1.1.2, ⟨hk.1.1.1.2, ⟨hk.1.1.2, ⟨hk.1.2, hk.2⟩⟩⟩⟩⟩⟩⟩⟩⟩)), (pk BK205.out), (pk BK206.out), (pk BK222.out), (pk BK227.out), (pk BK232.out), (pk BK238.out), (pk BK271.out), GW271.out, GE271.out, NB205_271.out, NB271_205.out, NB206_271.out, NB271_206.out, NB222_271.out, NB271_222.out, NB227_271.out, NB271_227.out, NB232_271.out, NB271_232.out, NB238_271.out, NB271_238.out, (bks HB.out)⟩)
          · skip
            refine box_step ?hg (N := 17) ?hd (cs := #[.int .i64 0, .slice none 0 0]) (t := 24) ?hr ?_; (case hd => rfl); (case hg => rfl); (case hr => first | (go_simp; done) | (go_simp; rfl))
            intro gb271 hg w123 hbox hb
            have n0_ := Aside0.mk (Kd.R_below (rk HO212.out) hb)
            have n1_ := Aside0.mk (Kd.R_below (rk HO216.out) hb)
            have n2_ := Aside0.mk (Kd.R_below (rk HO220.out) hb)
            have n3_ := Aside0.mk (Kd.R_below (rk HO226.out) hb)
            have n4_ := Aside0.mk (Kd.R_below (rk HO231.out) hb)
            have n5_ := Aside0.mk (Kd.R_below (rk HO236.out) hb)
            have n6_ := Aside0.mk (Kd.R_below (rk HO243.out) hb)
            have n7_ := Aside0.mk (Kd.R_below (rk HO248.out) hb)
            have n8_ := Aside0.mk (Kd.R_below (rk HO261.out) hb)
            have n9_ := Aside0.mk (blk_below (pk BK205.out) hb)
            have n10_ := Aside0.mk (blk_below (pk BK206.out) hb)
            have n11_ := Aside0.mk (blk_below (pk BK222.out) hb)
            have n12_ := Aside0.mk (blk_below (pk BK227.out) hb)
            have n13_ := Aside0.mk (blk_below (pk BK232.out) hb)
            have n14_ := Aside0.mk (blk_below (pk BK238.out) hb)
            have n15_ := Aside0.mk (below_step (bks HB.out) hb)
            have n16_ := Aside0.mk (hbox)
            have n17_ := Aside0.mk ((by rw [hg]; exact (below_size (bks HB.out)) : w.heap.size ≤ gb271))
            have n18_ := Aside0.mk ((by rw [hg]; exact (below_size (bks HB.out)) : w.heap.size ≤ gb271))
            have n19_ := Aside0.mk ((by rw [hg]; exact Nat.ne_of_lt (blk_lt (g := gb205) (o := .cells #[.int .i64 a0_0, .slice A0_1 l0_1.length c0_1] 32 (0, 0)) (pk BK205.out)) : gb205 ≠ gb271))
            have n20_ := Aside0.mk ((by rw [hg]; exact Nat.ne_of_gt (blk_lt (g := gb205) (o := .cells #[.int .i64 a0_0, .slice A0_1 l0_1.length c0_1] 32 (0, 0)) (pk BK205.out)) : gb271 ≠ gb205))
            have n21_ := Aside0.mk ((by rw [hg]; exact Nat.ne_of_lt (blk_lt (g := gb206) (o := .cells #[.int .i64 a1_0, .slice A1_1 l1_1.length c1_1] 32 (0, 0)) (pk BK206.out)) : gb206 ≠ gb271))
            have n22_ := Aside0.mk ((by rw [hg]; exact Nat.ne_of_gt (blk_lt (g := gb206) (o := .cells #[.int .i64 a1_0, .slice A1_1 l1_1.length c1_1] 32 (0, 0)) (pk BK206.out)) : gb271 ≠ gb206))
            have n23_ := Aside0.mk ((by rw [hg]; exact Nat.ne_of_lt (blk_lt (g := gb222) (o := .cells #[.int .i64 t217, .slice Ao69 t218.length co69] 24 (0, 0)) (pk BK222.out)) : gb222 ≠ gb271))
            have n24_ := Aside0.mk ((by rw [hg]; exact Nat.ne_of_gt (blk_lt (g := gb222) (o := .cells #[.int .i64 t217, .slice Ao69 t218.length co69] 24 (0, 0)) (pk BK222.out)) : gb271 ≠ gb222))
            have n25_ := Aside0.mk ((by rw [hg]; exact Nat.ne_of_lt (blk_lt (g := gb227) (o := .cells #[.int .i64 t223, .slice Ao79 t224.length co79] 24 (0, 0)) (pk BK227.out)) : gb227 ≠ gb271))
            have n26_ := Aside0.mk ((by rw [hg]; exact Nat.ne_of_gt (blk_lt (g := gb227) (o := .cells #[.int .i64 t223, .slice Ao79 t224.length co79] 24 (0, 0)) (pk BK227.out)) : gb271 ≠ gb227))
            have n27_ := Aside0.mk ((by rw [hg]; exact Nat.ne_of_lt (blk_lt (g := gb232) (o := .cells #[.int .i64 t228, .slice Ao89 t229.length co89] 24 (0, 0)) (pk BK232.out)) : gb232 ≠ gb271))
            have n28_ := Aside0.mk ((by rw [hg]; exact Nat.ne_of_gt (blk_lt (g := gb232) (o := .cells #[.int .i64 t228, .slice Ao89 t229.length co89] 24 (0, 0)) (pk BK232.out)) : gb271 ≠ gb232))
            have n29_ := Aside0.mk ((by rw [hg]; exact Nat.ne_of_lt (blk_lt (g := gb238) (o := .cells #[.int .i64 t233, .slice Ao99 t234.length co99] 24 (0, 0)) (pk BK238.out)) : gb238 ≠ gb271))
            have n30_ := Aside0.mk ((by rw [hg]; exact Nat.ne_of_gt (blk_lt (g := gb238) (o := .cells #[.int .i64 t233, .slice Ao99 t234.length co99] 24 (0, 0)) (pk BK238.out)) : gb271 ≠ gb238))
            clear HO212 HO216 HO220 HO226 HO231 HO236 HO243 HO248 HO261 BK205 BK206 BK222 BK227 BK232 BK238 HB
            have HO212 := n0_
            have HO216 := n1_
            have HO220 := n2_
            have HO226 := n3_
            have HO231 := n4_
            have HO236 := n5_
            have HO243 := n6_
            have HO248 := n7_
            have HO261 := n8_
            have BK205 := n9_
            have BK206 := n10_
            have BK222 := n11_
            have BK227 := n12_
            have BK232 := n13_
            have BK238 := n14_
            have HB := n15_
            have BK271 := n16_
            have GW271 := n17_
            have GE271 := n18_
            have NB205_271 := n19_
            have NB271_205 := n20_
            have NB206_271 := n21_
            have NB271_206 := n22_
            have NB222_271 := n23_
            have NB271_222 := n24_
            have NB227_271 := n25_
            have NB271_227 := n26_
            have NB232_271 := n27_
            have NB271_232 := n28_
            have NB238_271 := n29_
            have NB271_238 := n30_
            clear n0_ n1_ n2_ n3_ n4_ n5_ n6_ n7_ n8_ n9_ n10_ n11_ n12_ n13_ n14_ n15_ n16_ n17_ n18_ n19_ n20_ n21_ n22_ n23_ n24_ n25_ n26_ n27_ n28_ n29_ n30_ hb hbox hg
            refine hK.out _ _ ⟨(blk_cell BK205.out 0).trans rfl, (blk_cell BK205.out 1).trans rfl, (blk_cell BK206.out 0).trans rfl, (blk_cell BK206.out 1).trans rfl⟩ (fun hHeld => ?_)
            clear hK K
            refine norm_ (a' := ?_) ?_ ?_
            rotate_left
            · show Act.put _ (some 17) _ = _
              simp only [Act.put, List.setIfInBounds_toArray, List.set_cons_zero, List.set_cons_succ, i64_w, i32_w]
              rfl
            refine one_ (i := 3) (N := some 102) #[true, true, true, true, true, false, false, false, false, true, false, false] rfl rfl (one_of HT_.out (by kernel_rfl)) (by decide) (fun K hK => ?_)
            refine goes_ Try.func21 (by kernel_rfl) rfl #[.agg #[.int .i64 a1_0, .slice A1_1 l1_1.length c1_1]] (by rfl) rfl rfl (by (try simp only [List.map_toArray, List.map_cons, List.map_nil]); first | done | rfl | (simp only [List.length_drop, List.length_take]; rfl)) ?_
            with_reducible refine (laws_toRing.calls k a1_0 _ _ l1_1 t262 t263 _ ?side1 ?side2 A45.out).mono ?_
            (case side1 => repeat (first | exact (Kd.C_below HR1_1.out HB.out) | (with_reducible refine Kd.C_alloc ?_ _) | (with_reducible refine Kd.C_drewN ?_ _) | (with_reducible refine Kd.C_drew ?_)))
            (case side2 => exact HC1_1.out)
            rintro e w124 ⟨v264, rfl, ho0, hb⟩
            refine ⟨_, rfl, ?_⟩
            have n0_ := Aside0.mk (Kd.R_elder' (rk HO212.out) (Kd.R_base ho0) hb)
            have n1_ := Aside0.mk (Kd.R_elder' (rk HO216.out) (Kd.R_base ho0) hb)
            have n2_ := Aside0.mk (Kd.R_elder' (rk HO220.out) (Kd.R_base ho0) hb)
            have n3_ := Aside0.mk (Kd.R_elder' (rk HO226.out) (Kd.R_base ho0) hb)
            have n4_ := Aside0.mk (Kd.R_elder' (rk HO231.out) (Kd.R_base ho0) hb)
            have n5_ := Aside0.mk (Kd.R_elder' (rk HO236.out) (Kd.R_base ho0) hb)
            have n6_ := Aside0.mk (Kd.R_elder' (rk HO243.out) (Kd.R_base ho0) hb)
            have n7_ := Aside0.mk (Kd.R_elder' (rk HO248.out) (Kd.R_base ho0) hb)
            have n8_ := Aside0.mk (Kd.R_elder' (rk HO261.out) (Kd.R_base ho0) hb)
            have n9_ := Aside0.mk (Kd.R_lower (Kd.R_new' (Kd.R_new' (Kd.R_new' (Kd.R_new' (Kd.R_new' (Kd.R_new' (Kd.R_new' (Kd.R_new' (Kd.R_new' ho0 (Kd.R_lt (rk HO212.out))) (Kd.R_lt (rk HO216.out))) (Kd.R_lt (rk HO220.out))) (Kd.R_lt (rk HO226.out))) (Kd.R_lt (rk HO231.out))) (Kd.R_lt (rk HO236.out))) (Kd.R_lt (rk HO243.out))) (Kd.R_lt (rk HO248.out))) (Kd.R_lt (rk HO261.out))) (below_size (bks HB.out)))
            have n10_ := Aside0.mk (blk_below (pk BK205.out) hb)
            have n11_ := Aside0.mk (blk_below (pk BK206.out) hb)
            have n12_ := Aside0.mk (blk_below (pk BK222.out) hb)
            have n13_ := Aside0.mk (blk_below (pk BK227.out) hb)
            have n14_ := Aside0.mk (blk_below (pk BK232.out) hb)
            have n15_ := Aside0.mk (blk_below (pk BK238.out) hb)
            have n16_ := Aside0.mk (blk_below (pk BK271.out) hb)
            have n17_ := Aside0.mk (below_step (bks HB.out) hb)
            clear HO212 HO216 HO220 HO226 HO231 HO236 HO243 HO248 HO261 BK205 BK206 BK222 BK227 BK232 BK238 BK271 HB
            have HO212 := n0_
            have HO216 := n1_
            have HO220 := n2_
            have HO226 := n3_
            have HO231 := n4_
            have HO236 := n5_
            have HO243 := n6_
            have HO248 := n7_
            have HO261 := n8_
            have HO265 := n9_
            have BK205 := n10_
            have BK206 := n11_
            have BK222 := n12_
            have BK227 := n13_
            have BK232 := n14_
            have BK238 := n15_
            have BK271 := n16_
            have HB := n17_
            clear n0_ n1_ n2_ n3_ n4_ n5_ n6_ n7_ n8_ n9_ n10_ n11_ n12_ n13_ n14_ n15_ n16_ n17_
            (try clear hb)
            (try clear hb2)
            (try clear hk)
            (try clear hi)
            (try clear ho0)
            obtain ⟨Ao125, co125, eo125⟩ := Kd.R_slice HO261.out
            (first | subst eo125 | (injection eo125 with f1_ f2_ f3_; have f4_ := f1_.symm; have f5_ := f3_.symm; clear f1_ f2_ f3_; subst f4_; subst f5_))
            obtain ⟨Ao126, co126, eo126⟩ := Kd.R_slice HO265.out
            (first | subst eo126 | (injection eo126 with f1_ f2_ f3_; have f4_ := f1_.symm; have f5_ := f3_.symm; clear f1_ f2_ f3_; subst f4_; subst f5_))
            refine hK.out _ _ ⟨(blk_cell BK205.out 0).trans rfl, (blk_cell BK205.out 1).trans rfl, (blk_cell BK206.out 0).trans rfl, (blk_cell BK206.out 1).trans rfl⟩ (fun hHeld => ?_)
            clear hK K
            refine norm_ (a' := ?_) ?_ ?_
            rotate_left
            · show Act.put _ (some 102) _ = _
              simp only [Act.put, List.setIfInBounds_toArray, List.set_cons_zero, List.set_cons_succ, i64_w, i32_w]
              rfl
            refine one_ (i := 5) (N := some 104) #[true, true, true, true, true, true, false, false, false, true, false, false] rfl rfl (one_of HT_.out (by kernel_rfl)) (by decide) (fun K hK => ?_)
            refine goes_ Try.func26 (by kernel_rfl) rfl #[.agg #[.int .i64 t258, .slice Ao125 t259.length co125], .agg #[.int .i64 t262, .slice Ao126 t263.length co126], .int .i64 a2] (by rfl) rfl rfl (by (try simp only [List.map_toArray, List.map_cons, List.map_nil]); first | done | rfl | (simp only [List.length_drop, List.length_take]; rfl)) ?_
            with_reducible refine (impl_AddRings.calls k t258 _ _ t259 t262 _ _ t263 a2 t266 t267 t270 _ ?side1 ?side2 ?side3 ?side4 A46.out).mono ?_
            (case side1 => repeat (first | exact (Kd.R_reads' HO261.out).2.2 | (with_reducible refine Kd.C_alloc ?_ _) | (with_reducible refine Kd.C_drewN ?_ _) | (with_reducible refine Kd.C_drew ?_)))
            (case side2 => exact (Kd.R_reads' HO261.out).2.1)
            (case side3 => repeat (first | exact (Kd.R_reads' HO265.out).2.2 | (with_reducible refine Kd.C_alloc ?_ _) | (with_reducible refine Kd.C_drewN ?_ _) | (with_reducible refine Kd.C_drew ?_)))
            (case side4 => exact (Kd.R_reads' HO265.out).2.1)
            rintro e w127 ⟨v268, rfl, ho0, hb⟩
            refine ⟨_, rfl, ?_⟩
            have n0_ := Aside0.mk (Kd.R_elder' (rk HO212.out) (Kd.R_base ho0) hb)
            have n1_ := Aside0.mk (Kd.R_elder' (rk HO216.out) (Kd.R_base ho0) hb)
            have n2_ := Aside0.mk (Kd.R_elder' (rk HO220.out) (Kd.R_base ho0) hb)
            have n3_ := Aside0.mk (Kd.R_elder' (rk HO226.out) (Kd.R_base ho0) hb)
            have n4_ := Aside0.mk (Kd.R_elder' (rk HO231.out) (Kd.R_base ho0) hb)
            have n5_ := Aside0.mk (Kd.R_elder' (rk HO236.out) (Kd.R_base ho0) hb)
            have n6_ := Aside0.mk (Kd.R_elder' (rk HO243.out) (Kd.R_base ho0) hb)
            have n7_ := Aside0.mk (Kd.R_elder' (rk HO248.out) (Kd.R_base ho0) hb)
            have n8_ := Aside0.mk (Kd.R_elder' (rk HO261.out) (Kd.R_base ho0) hb)
            have n9_ := Aside0.mk (Kd.R_elder' (rk HO265.out) (Kd.R_base ho0) hb)
            have n10_ := Aside0.mk (Kd.R_lower (Kd.R_new' (Kd.R_new' (Kd.R_new' (Kd.R_new' (Kd.R_new' (Kd.R_new' (Kd.R_new' (Kd.R_new' (Kd.R_new' (Kd.R_new' ho0 (Kd.R_lt (rk HO212.out))) (Kd.R_lt (rk HO216.out))) (Kd.R_lt (rk HO220.out))) (Kd.R_lt (rk HO226.out))) (Kd.R_lt (rk HO231.out))) (Kd.R_lt (rk HO236.out))) (Kd.R_lt (rk HO243.out))) (Kd.R_lt (rk HO248.out))) (Kd.R_lt (rk HO261.out))) (Kd.R_lt (rk HO265.out))) (below_size (bks HB.out)))
            have n11_ := Aside0.mk (blk_below (pk BK205.out) hb)
            have n12_ := Aside0.mk (blk_below (pk BK206.out) hb)
            have n13_ := Aside0.mk (blk_below (pk BK222.out) hb)
            have n14_ := Aside0.mk (blk_below (pk BK227.out) hb)
            have n15_ := Aside0.mk (blk_below (pk BK232.out) hb)
            have n16_ := Aside0.mk (blk_below (pk BK238.out) hb)
            have n17_ := Aside0.mk (blk_below (pk BK271.out) hb)
            have n18_ := Aside0.mk (below_step (bks HB.out) hb)
            clear HO212 HO216 HO220 HO226 HO231 HO236 HO243 HO248 HO261 HO265 BK205 BK206 BK222 BK227 BK232 BK238 BK271 HB
            have HO212 := n0_
            have HO216 := n1_
            have HO220 := n2_
            have HO226 := n3_
            have HO231 := n4_
            have HO236 := n5_
            have HO243 := n6_
            have HO248 := n7_
            have HO261 := n8_
            have HO265 := n9_
            have HO269 := n10_
            have BK205 := n11_
            have BK206 := n12_
            have BK222 := n13_
            have BK227 := n14_
            have BK232 := n15_
            have BK238 := n16_
            have BK271 := n17_
            have HB := n18_
            clear n0_ n1_ n2_ n3_ n4_ n5_ n6_ n7_ n8_ n9_ n10_ n11_ n12_ n13_ n14_ n15_ n16_ n17_ n18_
            (try clear hb)
            (try clear hb2)
            (try clear hk)
            (try clear hi)
            (try clear ho0)
            refine hK.out _ _ ⟨(blk_cell BK205.out 0).trans rfl, (blk_cell BK205.out 1).trans rfl, (blk_cell BK206.out 0).trans rfl, (blk_cell BK206.out 1).trans rfl⟩ (fun hHeld => ?_)
            clear hK K
            refine norm_ (a' := ?_) ?_ ?_
            rotate_left
            · show Act.put _ (some 104) _ = _
              simp only [Act.put, List.setIfInBounds_toArray, List.set_cons_zero, List.set_cons_succ, i64_w, i32_w]
              rfl
            refine pure_ (i := 6) (N := some 98) (v := ?_) (a' := ?_) #[true, true, true, true, true, true, true, false, false, true, false, false] rfl rfl (any_of HT_.out (by kernel_rfl)) (fun _ _ _ h => h) (Or.inl ⟨by rfl, ?_⟩) ?_ ?_
            rotate_left
            · intro w'
              go_simp
              with_reducible rfl
            rotate_left
            · simp only [Act.put, List.setIfInBounds_toArray, List.set_cons_zero, List.set_cons_succ, i64_w, i32_w]
              rfl
            refine pure_ (i := 7) (N := some 105) (v := ?_) (a' := ?_) #[true, true, true, true, true, true, true, true, false, true, false, false] rfl rfl (any_of HT_.out (by kernel_rfl)) (fun _ _ _ h => h) (Or.inl ⟨by rfl, ?_⟩) ?_ ?_
            rotate_left
            · intro w'
              go_simp
              with_reducible rfl
            rotate_left
            · simp only [Act.put, List.setIfInBounds_toArray, List.set_cons_zero, List.set_cons_succ, i64_w, i32_w]
              rfl
            refine pure_ (i := 8) (N := some 106) (v := ?_) (a' := ?_) #[true, true, true, true, true, true, true, true, true, true, false, false] rfl rfl (any_of HT_.out (by kernel_rfl)) (fun _ _ _ h => h) (Or.inl ⟨by rfl, ?_⟩) ?_ ?_
            rotate_left
            · intro w'
              go_simp
              with_reducible rfl
            rotate_left
            · simp only [Act.put, List.setIfInBounds_toArray, List.set_cons_zero, List.set_cons_succ, i64_w, i32_w]
              rfl
            exact norm_ (by simp only [putAll, Act.put, List.setIfInBounds_toArray, List.set_cons_zero, List.set_cons_succ]) (hCont (.slice Ao125 t259.length co125, .slice Ao126 t263.length co126, v268, gb271) _ ⟨hHeld, (by (with_reducible repeat (first | apply Kd.R_alloc | apply Kd.R_drewN | apply Kd.R_drew)); exact Kd.R_mono HO212.out (fun _ hk => ⟨hk.1.1.1.1, ⟨hk.1.1.1.2.1, ⟨hk.1.1.1.2.2.1, ⟨hk.1.1.1.2.2.2.1, ⟨hk.1.1.1.2.2.2.2.1, ⟨hk.1.1.1.2.2.2.2.2.1, ⟨hk.1.1.1.2.2.2.2.2.2, ⟨hk.1.1.2, ⟨hk.1.2, hk.2⟩⟩⟩⟩⟩⟩⟩⟩⟩)), (by (with_reducible repeat (first | apply Kd.R_alloc | apply Kd.R_drewN | apply Kd.R_drew)); exact Kd.R_mono HO216.out (fun _ hk => ⟨hk.1.1.1.1, ⟨hk.1.1.1.2.1, ⟨hk.1.1.1.2.2.1, ⟨hk.1.1.1.2.2.2.1, ⟨hk.1.1.1.2.2.2.2.1, ⟨hk.1.1.1.2.2.2.2.2.1, ⟨hk.1.1.1.2.2.2.2.2.2, ⟨hk.1.1.2, ⟨hk.1.2, hk.2⟩⟩⟩⟩⟩⟩⟩⟩⟩)), (by (with_reducible repeat (first | apply Kd.R_alloc | apply Kd.R_drewN | apply Kd.R_drew)); exact Kd.R_mono HO220.out (fun _ hk => ⟨hk.1.1.1.1, ⟨hk.1.1.1.2.1, ⟨hk.1.1.1.2.2.1, ⟨hk.1.1.1.2.2.2.1, ⟨hk.1.1.1.2.2.2.2.1, ⟨hk.1.1.1.2.2.2.2.2.1, ⟨hk.1.1.1.2.2.2.2.2.2, ⟨hk.1.1.2, ⟨hk.1.2, hk.2⟩⟩⟩⟩⟩⟩⟩⟩⟩)), (by (with_reducible repeat (first | apply Kd.R_alloc | apply Kd.R_drewN | apply Kd.R_drew)); exact Kd.R_mono HO226.out (fun _ hk => ⟨hk.1.1.1.1, ⟨hk.1.1.1.2.1, ⟨hk.1.1.1.2.2.1, ⟨hk.1.1.1.2.2.2.1, ⟨hk.1.1.1.2.2.2.2.1, ⟨hk.1.1.1.2.2.2.2.2.1, ⟨hk.1.1.1.2.2.2.2.2.2, ⟨hk.1.1.2, ⟨hk.1.2, hk.2⟩⟩⟩⟩⟩⟩⟩⟩⟩)), (by (with_reducible repeat (first | apply Kd.R_alloc | apply Kd.R_drewN | apply Kd.R_drew)); exact Kd.R_mono HO231.out (fun _ hk => ⟨hk.1.1.1.1, ⟨hk.1.1.1.2.1, ⟨hk.1.1.1.2.2.1, ⟨hk.1.1.1.2.2.2.1, ⟨hk.1.1.1.2.2.2.2.1, ⟨hk.1.1.1.2.2.2.2.2.1, ⟨hk.1.1.1.2.2.2.2.2.2, ⟨hk.1.1.2, ⟨hk.1.2, hk.2⟩⟩⟩⟩⟩⟩⟩⟩⟩)), (by (with_reducible repeat (first | apply Kd.R_alloc | apply Kd.R_drewN | apply Kd.R_drew)); exact Kd.R_mono HO236.out (fun _ hk => ⟨hk.1.1.1.1, ⟨hk.1.1.1.2.1, ⟨hk.1.1.1.2.2.1, ⟨hk.1.1.1.2.2.2.1, ⟨hk.1.1.1.2.2.2.2.1, ⟨hk.1.1.1.2.2.2.2.2.1, ⟨hk.1.1.1.2.2.2.2.2.2, ⟨hk.1.1.2, ⟨hk.1.2, hk.2⟩⟩⟩⟩⟩⟩⟩⟩⟩)), (by (with_reducible repeat (first | apply Kd.R_alloc | apply Kd.R_drewN | apply Kd.R_drew)); exact Kd.R_mono HO243.out (fun _ hk => ⟨hk.1.1.1.1, ⟨hk.1.1.1.2.1, ⟨hk.1.1.1.2.2.1, ⟨hk.1.1.1.2.2.2.1, ⟨hk.1.1.1.2.2.2.2.1, ⟨hk.1.1.1.2.2.2.2.2.1, ⟨hk.1.1.1.2.2.2.2.2.2, ⟨hk.1.1.2, ⟨hk.1.2, hk.2⟩⟩⟩⟩⟩⟩⟩⟩⟩)), (by (with_reducible repeat (first | apply Kd.R_alloc | apply Kd.R_drewN | apply Kd.R_drew)); exact Kd.R_mono HO248.out (fun _ hk => ⟨hk.1.1.1.1, ⟨hk.1.1.1.2.1, ⟨hk.1.1.1.2.2.1, ⟨hk.1.1.1.2.2.2.1, ⟨hk.1.1.1.2.2.2.2.1, ⟨hk.1.1.1.2.2.2.2.2.1, ⟨hk.1.1.1.2.2.2.2.2.2, ⟨hk.1.1.2, ⟨hk.1.2, hk.2⟩⟩⟩⟩⟩⟩⟩⟩⟩)), (by (with_reducible repeat (first | apply Kd.R_alloc | apply Kd.R_drewN | apply Kd.R_drew)); exact Kd.R_mono HO261.out (fun _ hk => ⟨hk.1.1.1.1.1.1.1.1.1.2, ⟨hk.1.1.1.1.1.1.1.1.2, ⟨hk.1.1.1.1.1.1.1.2, ⟨hk.1.1.1.1.1.1.2, ⟨hk.1.1.1.1.1.2, ⟨hk.1.1.1.1.2, ⟨hk.1.1.1.2, ⟨hk.1.1.2, ⟨hk.1.2, hk.2⟩⟩⟩⟩⟩⟩⟩⟩⟩)), (by (with_reducible repeat (first | apply Kd.R_alloc | apply Kd.R_drewN | apply Kd.R_drew)); exact Kd.R_mono HO265.out (fun _ hk => ⟨hk.1.1.1.1.1.1.1.1.1.2, ⟨hk.1.1.1.1.1.1.1.1.2, ⟨hk.1.1.1.1.1.1.1.2, ⟨hk.1.1.1.1.1.1.2, ⟨hk.1.1.1.1.1.2, ⟨hk.1.1.1.1.2, ⟨hk.1.1.1.2, ⟨hk.1.1.2, ⟨hk.1.2, hk.2⟩⟩⟩⟩⟩⟩⟩⟩⟩)), (by (with_reducible repeat (first | apply Kd.R_alloc | apply Kd.R_drewN | apply Kd.R_drew)); exact Kd.R_mono HO269.out (fun _ hk => ⟨hk.1.1.1.1.1.1.1.1.1.2, ⟨hk.1.1.1.1.1.1.1.1.2, ⟨hk.1.1.1.1.1.1.1.2, ⟨hk.1.1.1.1.1.1.2, ⟨hk.1.1.1.1.1.2, ⟨hk.1.1.1.1.2, ⟨hk.1.1.1.2, ⟨hk.1.1.2, ⟨hk.1.2, hk.2⟩⟩⟩⟩⟩⟩⟩⟩⟩)), (pk BK205.out), (pk BK206.out), (pk BK222.out), (pk BK227.out), (pk BK232.out), (pk BK238.out), (pk BK271.out), GW271.out, GE271.out, NB205_271.out, NB271_205.out, NB206_271.out, NB271_206.out, NB222_271.out, NB271_222.out, NB227_271.out, NB271_227.out, NB232_271.out, NB271_232.out, NB238_271.out, NB271_238.out, (bks HB.out)⟩)
        · skip
          refine box_step ?hg (N := 17) ?hd (cs := #[.int .i64 0, .slice none 0 0]) (t := 24) ?hr ?_; (case hd => rfl); (case hg => rfl); (case hr => first | (go_simp; done) | (go_simp; rfl))
          intro gb271 hg w122 hbox hb
          have n0_ := Aside0.mk (Kd.R_below (rk HO212.out) hb)
          have n1_ := Aside0.mk (Kd.R_below (rk HO216.out) hb)
          have n2_ := Aside0.mk (Kd.R_below (rk HO220.out) hb)
          have n3_ := Aside0.mk (Kd.R_below (rk HO226.out) hb)
          have n4_ := Aside0.mk (Kd.R_below (rk HO231.out) hb)
          have n5_ := Aside0.mk (Kd.R_below (rk HO236.out) hb)
          have n6_ := Aside0.mk (Kd.R_below (rk HO243.out) hb)
          have n7_ := Aside0.mk (Kd.R_below (rk HO248.out) hb)
          have n8_ := Aside0.mk (blk_below (pk BK205.out) hb)
          have n9_ := Aside0.mk (blk_below (pk BK206.out) hb)
          have n10_ := Aside0.mk (blk_below (pk BK222.out) hb)
          have n11_ := Aside0.mk (blk_below (pk BK227.out) hb)
          have n12_ := Aside0.mk (blk_below (pk BK232.out) hb)
          have n13_ := Aside0.mk (blk_below (pk BK238.out) hb)
          have n14_ := Aside0.mk (below_step (bks HB.out) hb)
          have n15_ := Aside0.mk (hbox)
          have n16_ := Aside0.mk ((by rw [hg]; exact (below_size (bks HB.out)) : w.heap.size ≤ gb271))
          have n17_ := Aside0.mk ((by rw [hg]; exact (below_size (bks HB.out)) : w.heap.size ≤ gb271))
          have n18_ := Aside0.mk ((by rw [hg]; exact Nat.ne_of_lt (blk_lt (g := gb205) (o := .cells #[.int .i64 a0_0, .slice A0_1 l0_1.length c0_1] 32 (0, 0)) (pk BK205.out)) : gb205 ≠ gb271))
          have n19_ := Aside0.mk ((by rw [hg]; exact Nat.ne_of_gt (blk_lt (g := gb205) (o := .cells #[.int .i64 a0_0, .slice A0_1 l0_1.length c0_1] 32 (0, 0)) (pk BK205.out)) : gb271 ≠ gb205))
          have n20_ := Aside0.mk ((by rw [hg]; exact Nat.ne_of_lt (blk_lt (g := gb206) (o := .cells #[.int .i64 a1_0, .slice A1_1 l1_1.length c1_1] 32 (0, 0)) (pk BK206.out)) : gb206 ≠ gb271))
          have n21_ := Aside0.mk ((by rw [hg]; exact Nat.ne_of_gt (blk_lt (g := gb206) (o := .cells #[.int .i64 a1_0, .slice A1_1 l1_1.length c1_1] 32 (0, 0)) (pk BK206.out)) : gb271 ≠ gb206))
          have n22_ := Aside0.mk ((by rw [hg]; exact Nat.ne_of_lt (blk_lt (g := gb222) (o := .cells #[.int .i64 t217, .slice Ao69 t218.length co69] 24 (0, 0)) (pk BK222.out)) : gb222 ≠ gb271))
          have n23_ := Aside0.mk ((by rw [hg]; exact Nat.ne_of_gt (blk_lt (g := gb222) (o := .cells #[.int .i64 t217, .slice Ao69 t218.length co69] 24 (0, 0)) (pk BK222.out)) : gb271 ≠ gb222))
          have n24_ := Aside0.mk ((by rw [hg]; exact Nat.ne_of_lt (blk_lt (g := gb227) (o := .cells #[.int .i64 t223, .slice Ao79 t224.length co79] 24 (0, 0)) (pk BK227.out)) : gb227 ≠ gb271))
          have n25_ := Aside0.mk ((by rw [hg]; exact Nat.ne_of_gt (blk_lt (g := gb227) (o := .cells #[.int .i64 t223, .slice Ao79 t224.length co79] 24 (0, 0)) (pk BK227.out)) : gb271 ≠ gb227))
          have n26_ := Aside0.mk ((by rw [hg]; exact Nat.ne_of_lt (blk_lt (g := gb232) (o := .cells #[.int .i64 t228, .slice Ao89 t229.length co89] 24 (0, 0)) (pk BK232.out)) : gb232 ≠ gb271))
          have n27_ := Aside0.mk ((by rw [hg]; exact Nat.ne_of_gt (blk_lt (g := gb232) (o := .cells #[.int .i64 t228, .slice Ao89 t229.length co89] 24 (0, 0)) (pk BK232.out)) : gb271 ≠ gb232))
          have n28_ := Aside0.mk ((by rw [hg]; exact Nat.ne_of_lt (blk_lt (g := gb238) (o := .cells #[.int .i64 t233, .slice Ao99 t234.length co99] 24 (0, 0)) (pk BK238.out)) : gb238 ≠ gb271))
          have n29_ := Aside0.mk ((by rw [hg]; exact Nat.ne_of_gt (blk_lt (g := gb238) (o := .cells #[.int .i64 t233, .slice Ao99 t234.length co99] 24 (0, 0)) (pk BK238.out)) : gb271 ≠ gb238))
          clear HO212 HO216 HO220 HO226 HO231 HO236 HO243 HO248 BK205 BK206 BK222 BK227 BK232 BK238 HB
          have HO212 := n0_
          have HO216 := n1_
          have HO220 := n2_
          have HO226 := n3_
          have HO231 := n4_
          have HO236 := n5_
          have HO243 := n6_
          have HO248 := n7_
          have BK205 := n8_
          have BK206 := n9_
          have BK222 := n10_
          have BK227 := n11_
          have BK232 := n12_
          have BK238 := n13_
          have HB := n14_
          have BK271 := n15_
          have GW271 := n16_
          have GE271 := n17_
          have NB205_271 := n18_
          have NB271_205 := n19_
          have NB206_271 := n20_
          have NB271_206 := n21_
          have NB222_271 := n22_
          have NB271_222 := n23_
          have NB227_271 := n24_
          have NB271_227 := n25_
          have NB232_271 := n26_
          have NB271_232 := n27_
          have NB238_271 := n28_
          have NB271_238 := n29_
          clear n0_ n1_ n2_ n3_ n4_ n5_ n6_ n7_ n8_ n9_ n10_ n11_ n12_ n13_ n14_ n15_ n16_ n17_ n18_ n19_ n20_ n21_ n22_ n23_ n24_ n25_ n26_ n27_ n28_ n29_ hb hbox hg
          refine hK.out _ _ ⟨(blk_cell BK205.out 0).trans rfl, (blk_cell BK205.out 1).trans rfl, (blk_cell BK206.out 0).trans rfl, (blk_cell BK206.out 1).trans rfl⟩ (fun hHeld => ?_)
          clear hK K
          refine norm_ (a' := ?_) ?_ ?_
          rotate_left
          · show Act.put _ (some 17) _ = _
            simp only [Act.put, List.setIfInBounds_toArray, List.set_cons_zero, List.set_cons_succ, i64_w, i32_w]
            rfl
          refine one_ (i := 1) (N := some 100) #[true, true, true, false, true, false, false, false, false, true, false, false] rfl rfl (one_of HT_.out (by kernel_rfl)) (by decide) (fun K hK => ?_)
          refine goes_ Try.func21 (by kernel_rfl) rfl #[.agg #[.int .i64 a0_0, .slice A0_1 l0_1.length c0_1]] (by rfl) rfl rfl (by (try simp only [List.map_toArray, List.map_cons, List.map_nil]); first | done | rfl | (simp only [List.length_drop, List.length_take]; rfl)) ?_
          with_reducible refine (laws_toRing.calls k a0_0 _ _ l0_1 t258 t259 _ ?side1 ?side2 A44.out).mono ?_
          (case side1 => repeat (first | exact (Kd.C_below HR0_1.out HB.out) | (with_reducible refine Kd.C_alloc ?_ _) | (with_reducible refine Kd.C_drewN ?_ _) | (with_reducible refine Kd.C_drew ?_)))
          (case side2 => exact HC0_1.out)
          rintro e w123 ⟨v260, rfl, ho0, hb⟩
          refine ⟨_, rfl, ?_⟩
          have n0_ := Aside0.mk (Kd.R_elder' (rk HO212.out) (Kd.R_base ho0) hb)
          have n1_ := Aside0.mk (Kd.R_elder' (rk HO216.out) (Kd.R_base ho0) hb)
          have n2_ := Aside0.mk (Kd.R_elder' (rk HO220.out) (Kd.R_base ho0) hb)
          have n3_ := Aside0.mk (Kd.R_elder' (rk HO226.out) (Kd.R_base ho0) hb)
          have n4_ := Aside0.mk (Kd.R_elder' (rk HO231.out) (Kd.R_base ho0) hb)
          have n5_ := Aside0.mk (Kd.R_elder' (rk HO236.out) (Kd.R_base ho0) hb)
          have n6_ := Aside0.mk (Kd.R_elder' (rk HO243.out) (Kd.R_base ho0) hb)
          have n7_ := Aside0.mk (Kd.R_elder' (rk HO248.out) (Kd.R_base ho0) hb)
          have n8_ := Aside0.mk (Kd.R_lower (Kd.R_new' (Kd.R_new' (Kd.R_new' (Kd.R_new' (Kd.R_new' (Kd.R_new' (Kd.R_new' (Kd.R_new' ho0 (Kd.R_lt (rk HO212.out))) (Kd.R_lt (rk HO216.out))) (Kd.R_lt (rk HO220.out))) (Kd.R_lt (rk HO226.out))) (Kd.R_lt (rk HO231.out))) (Kd.R_lt (rk HO236.out))) (Kd.R_lt (rk HO243.out))) (Kd.R_lt (rk HO248.out))) (below_size (bks HB.out)))
          have n9_ := Aside0.mk (blk_below (pk BK205.out) hb)
          have n10_ := Aside0.mk (blk_below (pk BK206.out) hb)
          have n11_ := Aside0.mk (blk_below (pk BK222.out) hb)
          have n12_ := Aside0.mk (blk_below (pk BK227.out) hb)
          have n13_ := Aside0.mk (blk_below (pk BK232.out) hb)
          have n14_ := Aside0.mk (blk_below (pk BK238.out) hb)
          have n15_ := Aside0.mk (blk_below (pk BK271.out) hb)
          have n16_ := Aside0.mk (below_step (bks HB.out) hb)
          clear HO212 HO216 HO220 HO226 HO231 HO236 HO243 HO248 BK205 BK206 BK222 BK227 BK232 BK238 BK271 HB
          have HO212 := n0_
          have HO216 := n1_
          have HO220 := n2_
          have HO226 := n3_
          have HO231 := n4_
          have HO236 := n5_
          have HO243 := n6_
          have HO248 := n7_
          have HO261 := n8_
          have BK205 := n9_
          have BK206 := n10_
          have BK222 := n11_
          have BK227 := n12_
          have BK232 := n13_
          have BK238 := n14_
          have BK271 := n15_
          have HB := n16_
          clear n0_ n1_ n2_ n3_ n4_ n5_ n6_ n7_ n8_ n9_ n10_ n11_ n12_ n13_ n14_ n15_ n16_
          (try clear hb)
          (try clear hb2)
          (try clear hk)
          (try clear hi)
          (try clear ho0)
          refine hK.out _ _ ⟨(blk_cell BK205.out 0).trans rfl, (blk_cell BK205.out 1).trans rfl, (blk_cell BK206.out 0).trans rfl, (blk_cell BK206.out 1).trans rfl⟩ (fun hHeld => ?_)
          clear hK K
          refine norm_ (a' := ?_) ?_ ?_
          rotate_left
          · show Act.put _ (some 100) _ = _
            simp only [Act.put, List.setIfInBounds_toArray, List.set_cons_zero, List.set_cons_succ, i64_w, i32_w]
            rfl
          refine one_ (i := 3) (N := some 102) #[true, true, true, true, true, false, false, false, false, true, false, false] rfl rfl (one_of HT_.out (by kernel_rfl)) (by decide) (fun K hK => ?_)
          refine goes_ Try.func21 (by kernel_rfl) rfl #[.agg #[.int .i64 a1_0, .slice A1_1 l1_1.length c1_1]] (by rfl) rfl rfl (by (try simp only [List.map_toArray, List.map_cons, List.map_nil]); first | done | rfl | (simp only [List.length_drop, List.length_take]; rfl)) ?_
          with_reducible refine (laws_toRing.calls k a1_0 _ _ l1_1 t262 t263 _ ?side1 ?side2 A45.out).mono ?_
          (case side1 => repeat (first | exact (Kd.C_below HR1_1.out HB.out) | (with_reducible refine Kd.C_alloc ?_ _) | (with_reducible refine Kd.C_drewN ?_ _) | (with_reducible refine Kd.C_drew ?_)))
          (case side2 => exact HC1_1.out)
          rintro e w124 ⟨v264, rfl, ho0, hb⟩
          refine ⟨_, rfl, ?_⟩
          have n0_ := Aside0.mk (Kd.R_elder' (rk HO212.out) (Kd.R_base ho0) hb)
          have n1_ := Aside0.mk (Kd.R_elder' (rk HO216.out) (Kd.R_base ho0) hb)
          have n2_ := Aside0.mk (Kd.R_elder' (rk HO220.out) (Kd.R_base ho0) hb)
          have n3_ := Aside0.mk (Kd.R_elder' (rk HO226.out) (Kd.R_base ho0) hb)
          have n4_ := Aside0.mk (Kd.R_elder' (rk HO231.out) (Kd.R_base ho0) hb)
          have n5_ := Aside0.mk (Kd.R_elder' (rk HO236.out) (Kd.R_base ho0) hb)
          have n6_ := Aside0.mk (Kd.R_elder' (rk HO243.out) (Kd.R_base ho0) hb)
          have n7_ := Aside0.mk (Kd.R_elder' (rk HO248.out) (Kd.R_base ho0) hb)
          have n8_ := Aside0.mk (Kd.R_elder' (rk HO261.out) (Kd.R_base ho0) hb)
          have n9_ := Aside0.mk (Kd.R_lower (Kd.R_new' (Kd.R_new' (Kd.R_new' (Kd.R_new' (Kd.R_new' (Kd.R_new' (Kd.R_new' (Kd.R_new' (Kd.R_new' ho0 (Kd.R_lt (rk HO212.out))) (Kd.R_lt (rk HO216.out))) (Kd.R_lt (rk HO220.out))) (Kd.R_lt (rk HO226.out))) (Kd.R_lt (rk HO231.out))) (Kd.R_lt (rk HO236.out))) (Kd.R_lt (rk HO243.out))) (Kd.R_lt (rk HO248.out))) (Kd.R_lt (rk HO261.out))) (below_size (bks HB.out)))
          have n10_ := Aside0.mk (blk_below (pk BK205.out) hb)
          have n11_ := Aside0.mk (blk_below (pk BK206.out) hb)
          have n12_ := Aside0.mk (blk_below (pk BK222.out) hb)
          have n13_ := Aside0.mk (blk_below (pk BK227.out) hb)
          have n14_ := Aside0.mk (blk_below (pk BK232.out) hb)
          have n15_ := Aside0.mk (blk_below (pk BK238.out) hb)
          have n16_ := Aside0.mk (blk_below (pk BK271.out) hb)
          have n17_ := Aside0.mk (below_step (bks HB.out) hb)
          clear HO212 HO216 HO220 HO226 HO231 HO236 HO243 HO248 HO261 BK205 BK206 BK222 BK227 BK232 BK238 BK271 HB
          have HO212 := n0_
          have HO216 := n1_
          have HO220 := n2_
          have HO226 := n3_
          have HO231 := n4_
          have HO236 := n5_
          have HO243 := n6_
          have HO248 := n7_
          have HO261 := n8_
          have HO265 := n9_
          have BK205 := n10_
          have BK206 := n11_
          have BK222 := n12_
          have BK227 := n13_
          have BK232 := n14_
          have BK238 := n15_
          have BK271 := n16_
          have HB := n17_
          clear n0_ n1_ n2_ n3_ n4_ n5_ n6_ n7_ n8_ n9_ n10_ n11_ n12_ n13_ n14_ n15_ n16_ n17_
          (try clear hb)
          (try clear hb2)
          (try clear hk)
          (try clear hi)
          (try clear ho0)
          obtain ⟨Ao125, co125, eo125⟩ := Kd.R_slice HO261.out
          (first | subst eo125 | (injection eo125 with f1_ f2_ f3_; have f4_ := f1_.symm; have f5_ := f3_.symm; clear f1_ f2_ f3_; subst f4_; subst f5_))
          obtain ⟨Ao126, co126, eo126⟩ := Kd.R_slice HO265.out
          (first | subst eo126 | (injection eo126 with f1_ f2_ f3_; have f4_ := f1_.symm; have f5_ := f3_.symm; clear f1_ f2_ f3_; subst f4_; subst f5_))
          refine hK.out _ _ ⟨(blk_cell BK205.out 0).trans rfl, (blk_cell BK205.out 1).trans rfl, (blk_cell BK206.out 0).trans rfl, (blk_cell BK206.out 1).trans rfl⟩ (fun hHeld => ?_)
          clear hK K
          refine norm_ (a' := ?_) ?_ ?_
          rotate_left
          · show Act.put _ (some 102) _ = _
            simp only [Act.put, List.setIfInBounds_toArray, List.set_cons_zero, List.set_cons_succ, i64_w, i32_w]
            rfl
          refine one_ (i := 5) (N := some 104) #[true, true, true, true, true, true, false, false, false, true, false, false] rfl rfl (one_of HT_.out (by kernel_rfl)) (by decide) (fun K hK => ?_)
          refine goes_ Try.func26 (by kernel_rfl) rfl #[.agg #[.int .i64 t258, .slice Ao125 t259.length co125], .agg #[.int .i64 t262, .slice Ao126 t263.length co126], .int .i64 a2] (by rfl) rfl rfl (by (try simp only [List.map_toArray, List.map_cons, List.map_nil]); first | done | rfl | (simp only [List.length_drop, List.length_take]; rfl)) ?_
          with_reducible refine (impl_AddRings.calls k t258 _ _ t259 t262 _ _ t263 a2 t266 t267 t270 _ ?side1 ?side2 ?side3 ?side4 A46.out).mono ?_
          (case side1 => repeat (first | exact (Kd.R_reads' HO261.out).2.2 | (with_reducible refine Kd.C_alloc ?_ _) | (with_reducible refine Kd.C_drewN ?_ _) | (with_reducible refine Kd.C_drew ?_)))
          (case side2 => exact (Kd.R_reads' HO261.out).2.1)
          (case side3 => repeat (first | exact (Kd.R_reads' HO265.out).2.2 | (with_reducible refine Kd.C_alloc ?_ _) | (with_reducible refine Kd.C_drewN ?_ _) | (with_reducible refine Kd.C_drew ?_)))
          (case side4 => exact (Kd.R_reads' HO265.out).2.1)
          rintro e w127 ⟨v268, rfl, ho0, hb⟩
          refine ⟨_, rfl, ?_⟩
          have n0_ := Aside0.mk (Kd.R_elder' (rk HO212.out) (Kd.R_base ho0) hb)
          have n1_ := Aside0.mk (Kd.R_elder' (rk HO216.out) (Kd.R_base ho0) hb)
          have n2_ := Aside0.mk (Kd.R_elder' (rk HO220.out) (Kd.R_base ho0) hb)
          have n3_ := Aside0.mk (Kd.R_elder' (rk HO226.out) (Kd.R_base ho0) hb)
          have n4_ := Aside0.mk (Kd.R_elder' (rk HO231.out) (Kd.R_base ho0) hb)
          have n5_ := Aside0.mk (Kd.R_elder' (rk HO236.out) (Kd.R_base ho0) hb)
          have n6_ := Aside0.mk (Kd.R_elder' (rk HO243.out) (Kd.R_base ho0) hb)
          have n7_ := Aside0.mk (Kd.R_elder' (rk HO248.out) (Kd.R_base ho0) hb)
          have n8_ := Aside0.mk (Kd.R_elder' (rk HO261.out) (Kd.R_base ho0) hb)
          have n9_ := Aside0.mk (Kd.R_elder' (rk HO265.out) (Kd.R_base ho0) hb)
          have n10_ := Aside0.mk (Kd.R_lower (Kd.R_new' (Kd.R_new' (Kd.R_new' (Kd.R_new' (Kd.R_new' (Kd.R_new' (Kd.R_new' (Kd.R_new' (Kd.R_new' (Kd.R_new' ho0 (Kd.R_lt (rk HO212.out))) (Kd.R_lt (rk HO216.out))) (Kd.R_lt (rk HO220.out))) (Kd.R_lt (rk HO226.out))) (Kd.R_lt (rk HO231.out))) (Kd.R_lt (rk HO236.out))) (Kd.R_lt (rk HO243.out))) (Kd.R_lt (rk HO248.out))) (Kd.R_lt (rk HO261.out))) (Kd.R_lt (rk HO265.out))) (below_size (bks HB.out)))
          have n11_ := Aside0.mk (blk_below (pk BK205.out) hb)
          have n12_ := Aside0.mk (blk_below (pk BK206.out) hb)
          have n13_ := Aside0.mk (blk_below (pk BK222.out) hb)
          have n14_ := Aside0.mk (blk_below (pk BK227.out) hb)
          have n15_ := Aside0.mk (blk_below (pk BK232.out) hb)
          have n16_ := Aside0.mk (blk_below (pk BK238.out) hb)
          have n17_ := Aside0.mk (blk_below (pk BK271.out) hb)
          have n18_ := Aside0.mk (below_step (bks HB.out) hb)
          clear HO212 HO216 HO220 HO226 HO231 HO236 HO243 HO248 HO261 HO265 BK205 BK206 BK222 BK227 BK232 BK238 BK271 HB
          have HO212 := n0_
          have HO216 := n1_
          have HO220 := n2_
          have HO226 := n3_
          have HO231 := n4_
          have HO236 := n5_
          have HO243 := n6_
          have HO248 := n7_
          have HO261 := n8_
          have HO265 := n9_
          have HO269 := n10_
          have BK205 := n11_
          have BK206 := n12_
          have BK222 := n13_
          have BK227 := n14_
          have BK232 := n15_
          have BK238 := n16_
          have BK271 := n17_
          have HB := n18_
          clear n0_ n1_ n2_ n3_ n4_ n5_ n6_ n7_ n8_ n9_ n10_ n11_ n12_ n13_ n14_ n15_ n16_ n17_ n18_
          (try clear hb)
          (try clear hb2)
          (try clear hk)
          (try clear hi)
          (try clear ho0)
          refine hK.out _ _ ⟨(blk_cell BK205.out 0).trans rfl, (blk_cell BK205.out 1).trans rfl, (blk_cell BK206.out 0).trans rfl, (blk_cell BK206.out 1).trans rfl⟩ (fun hHeld => ?_)
          clear hK K
          refine norm_ (a' := ?_) ?_ ?_
          rotate_left
          · show Act.put _ (some 104) _ = _
            simp only [Act.put, List.setIfInBounds_toArray, List.set_cons_zero, List.set_cons_succ, i64_w, i32_w]
            rfl
          refine pure_ (i := 6) (N := some 98) (v := ?_) (a' := ?_) #[true, true, true, true, true, true, true, false, false, true, false, false] rfl rfl (any_of HT_.out (by kernel_rfl)) (fun _ _ _ h => h) (Or.inl ⟨by rfl, ?_⟩) ?_ ?_
          rotate_left
          · intro w'
            go_simp
            with_reducible rfl
          rotate_left
          · simp only [Act.put, List.setIfInBounds_toArray, List.set_cons_zero, List.set_cons_succ, i64_w, i32_w]
            rfl
          refine pure_ (i := 7) (N := some 105) (v := ?_) (a' := ?_) #[true, true, true, true, true, true, true, true, false, true, false, false] rfl rfl (any_of HT_.out (by kernel_rfl)) (fun _ _ _ h => h) (Or.inl ⟨by rfl, ?_⟩) ?_ ?_
          rotate_left
          · intro w'
            go_simp
            with_reducible rfl
          rotate_left
          · simp only [Act.put, List.setIfInBounds_toArray, List.set_cons_zero, List.set_cons_succ, i64_w, i32_w]
            rfl
          refine pure_ (i := 8) (N := some 106) (v := ?_) (a' := ?_) #[true, true, true, true, true, true, true, true, true, true, false, false] rfl rfl (any_of HT_.out (by kernel_rfl)) (fun _ _ _ h => h) (Or.inl ⟨by rfl, ?_⟩) ?_ ?_
          rotate_left
          · intro w'
            go_simp
            with_reducible rfl
          rotate_left
          · simp only [Act.put, List.setIfInBounds_toArray, List.set_cons_zero, List.set_cons_succ, i64_w, i32_w]
            rfl
          exact norm_ (by simp only [putAll, Act.put, List.setIfInBounds_toArray, List.set_cons_zero, List.set_cons_succ]) (hCont (.slice Ao125 t259.length co125, .slice Ao126 t263.length co126, v268, gb271) _ ⟨hHeld, (by (with_reducible repeat (first | apply Kd.R_alloc | apply Kd.R_drewN | apply Kd.R_drew)); exact Kd.R_mono HO212.out (fun _ hk => ⟨hk.1.1.1.1, ⟨hk.1.1.1.2.1, ⟨hk.1.1.1.2.2.1, ⟨hk.1.1.1.2.2.2.1, ⟨hk.1.1.1.2.2.2.2.1, ⟨hk.1.1.1.2.2.2.2.2.1, ⟨hk.1.1.1.2.2.2.2.2.2, ⟨hk.1.1.2, ⟨hk.1.2, hk.2⟩⟩⟩⟩⟩⟩⟩⟩⟩)), (by (with_reducible repeat (first | apply Kd.R_alloc | apply Kd.R_drewN | apply Kd.R_drew)); exact Kd.R_mono HO216.out (fun _ hk => ⟨hk.1.1.1.1, ⟨hk.1.1.1.2.1, ⟨hk.1.1.1.2.2.1, ⟨hk.1.1.1.2.2.2.1, ⟨hk.1.1.1.2.2.2.2.1, ⟨hk.1.1.1.2.2.2.2.2.1, ⟨hk.1.1.1.2.2.2.2.2.2, ⟨hk.1.1.2, ⟨hk.1.2, hk.2⟩⟩⟩⟩⟩⟩⟩⟩⟩)), (by (with_reducible repeat (first | apply Kd.R_alloc | apply Kd.R_drewN | apply Kd.R_drew)); exact Kd.R_mono HO220.out (fun _ hk => ⟨hk.1.1.1.1, ⟨hk.1.1.1.2.1, ⟨hk.1.1.1.2.2.1, ⟨hk.1.1.1.2.2.2.1, ⟨hk.1.1.1.2.2.2.2.1, ⟨hk.1.1.1.2.2.2.2.2.1, ⟨hk.1.1.1.2.2.2.2.2.2, ⟨hk.1.1.2, ⟨hk.1.2, hk.2⟩⟩⟩⟩⟩⟩⟩⟩⟩)), (by (with_reducible repeat (first | apply Kd.R_alloc | apply Kd.R_drewN | apply Kd.R_drew)); exact Kd.R_mono HO226.out (fun _ hk => ⟨hk.1.1.1.1, ⟨hk.1.1.1.2.1, ⟨hk.1.1.1.2.2.1, ⟨hk.1.1.1.2.2.2.1, ⟨hk.1.1.1.2.2.2.2.1, ⟨hk.1.1.1.2.2.2.2.2.1, ⟨hk.1.1.1.2.2.2.2.2.2, ⟨hk.1.1.2, ⟨hk.1.2, hk.2⟩⟩⟩⟩⟩⟩⟩⟩⟩)), (by (with_reducible repeat (first | apply Kd.R_alloc | apply Kd.R_drewN | apply Kd.R_drew)); exact Kd.R_mono HO231.out (fun _ hk => ⟨hk.1.1.1.1, ⟨hk.1.1.1.2.1, ⟨hk.1.1.1.2.2.1, ⟨hk.1.1.1.2.2.2.1, ⟨hk.1.1.1.2.2.2.2.1, ⟨hk.1.1.1.2.2.2.2.2.1, ⟨hk.1.1.1.2.2.2.2.2.2, ⟨hk.1.1.2, ⟨hk.1.2, hk.2⟩⟩⟩⟩⟩⟩⟩⟩⟩)), (by (with_reducible repeat (first | apply Kd.R_alloc | apply Kd.R_drewN | apply Kd.R_drew)); exact Kd.R_mono HO236.out (fun _ hk => ⟨hk.1.1.1.1, ⟨hk.1.1.1.2.1, ⟨hk.1.1.1.2.2.1, ⟨hk.1.1.1.2.2.2.1, ⟨hk.1.1.1.2.2.2.2.1, ⟨hk.1.1.1.2.2.2.2.2.1, ⟨hk.1.1.1.2.2.2.2.2.2, ⟨hk.1.1.2, ⟨hk.1.2, hk.2⟩⟩⟩⟩⟩⟩⟩⟩⟩)), (by (with_reducible repeat (first | apply Kd.R_alloc | apply Kd.R_drewN | apply Kd.R_drew)); exact Kd.R_mono HO243.out (fun _ hk => ⟨hk.1.1.1.1, ⟨hk.1.1.1.2.1, ⟨hk.1.1.1.2.2.1, ⟨hk.1.1.1.2.2.2.1, ⟨hk.1.1.1.2.2.2.2.1, ⟨hk.1.1.1.2.2.2.2.2.1, ⟨hk.1.1.1.2.2.2.2.2.2, ⟨hk.1.1.2, ⟨hk.1.2, hk.2⟩⟩⟩⟩⟩⟩⟩⟩⟩)), (by (with_reducible repeat (first | apply Kd.R_alloc | apply Kd.R_drewN | apply Kd.R_drew)); exact Kd.R_mono HO248.out (fun _ hk => ⟨hk.1.1.1.1, ⟨hk.1.1.1.2.1, ⟨hk.1.1.1.2.2.1, ⟨hk.1.1.1.2.2.2.1, ⟨hk.1.1.1.2.2.2.2.1, ⟨hk.1.1.1.2.2.2.2.2.1, ⟨hk.1.1.1.2.2.2.2.2.2, ⟨hk.1.1.2, ⟨hk.1.2, hk.2⟩⟩⟩⟩⟩⟩⟩⟩⟩)), (by (with_reducible repeat (first | apply Kd.R_alloc | apply Kd.R_drewN | apply Kd.R_drew)); exact Kd.R_mono HO261.out (fun _ hk => ⟨hk.1.1.1.1.1.1.1.1.1.2, ⟨hk.1.1.1.1.1.1.1.1.2, ⟨hk.1.1.1.1.1.1.1.2, ⟨hk.1.1.1.1.1.1.2, ⟨hk.1.1.1.1.1.2, ⟨hk.1.1.1.1.2, ⟨hk.1.1.1.2, ⟨hk.1.1.2, ⟨hk.1.2, hk.2⟩⟩⟩⟩⟩⟩⟩⟩⟩)), (by (with_reducible repeat (first | apply Kd.R_alloc | apply Kd.R_drewN | apply Kd.R_drew)); exact Kd.R_mono HO265.out (fun _ hk => ⟨hk.1.1.1.1.1.1.1.1.1.2, ⟨hk.1.1.1.1.1.1.1.1.2, ⟨hk.1.1.1.1.1.1.1.2, ⟨hk.1.1.1.1.1.1.2, ⟨hk.1.1.1.1.1.2, ⟨hk.1.1.1.1.2, ⟨hk.1.1.1.2, ⟨hk.1.1.2, ⟨hk.1.2, hk.2⟩⟩⟩⟩⟩⟩⟩⟩⟩)), (by (with_reducible repeat (first | apply Kd.R_alloc | apply Kd.R_drewN | apply Kd.R_drew)); exact Kd.R_mono HO269.out (fun _ hk => ⟨hk.1.1.1.1.1.1.1.1.1.2, ⟨hk.1.1.1.1.1.1.1.1.2, ⟨hk.1.1.1.1.1.1.1.2, ⟨hk.1.1.1.1.1.1.2, ⟨hk.1.1.1.1.1.2, ⟨hk.1.1.1.1.2, ⟨hk.1.1.1.2, ⟨hk.1.1.2, ⟨hk.1.2, hk.2⟩⟩⟩⟩⟩⟩⟩⟩⟩)), (pk BK205.out), (pk BK206.out), (pk BK222.out), (pk BK227.out), (pk BK232.out), (pk BK238.out), (pk BK271.out), GW271.out, GE271.out, NB205_271.out, NB271_205.out, NB206_271.out, NB271_206.out, NB222_271.out, NB271_222.out, NB227_271.out, NB271_227.out, NB232_271.out, NB271_232.out, NB238_271.out, NB271_238.out, (bks HB.out)⟩)
      rintro ⟨v260, v264, v268, gb271⟩ w128 ⟨hS_, h0_, h1_, h2_, h3_, h4_, h5_, h6_, h7_, h8_, h9_, h10_, h11_, h12_, h13_, h14_, h15_, h16_, h17_, h18_, h19_, h20_, h21_, h22_, h23_, h24_, h25_, h26_, h27_, h28_, h29_, h30_, h31_, h32_⟩
      have n0_ : Aside0 (Kd.R (Kd.int .i64) 2 w128 w.heap.size (fun k_ => some k_ ≠ (v215 : Value).ownBlock ∧ some k_ ≠ (.slice Ao69 t218.length co69 : Value).ownBlock ∧ some k_ ≠ (.slice Ao79 t224.length co79 : Value).ownBlock ∧ some k_ ≠ (.slice Ao89 t229.length co89 : Value).ownBlock ∧ some k_ ≠ (.slice Ao99 t234.length co99 : Value).ownBlock ∧ some k_ ≠ (.slice Ao104 t241.length co104 : Value).ownBlock ∧ some k_ ≠ (.slice Ao108 t246.length co108 : Value).ownBlock ∧ some k_ ≠ (v260 : Value).ownBlock ∧ some k_ ≠ (v264 : Value).ownBlock ∧ some k_ ≠ (v268 : Value).ownBlock) v211 t210) := ⟨h0_⟩
      have n1_ : Aside0 (Kd.R (Kd.int .i64) 2 w128 w.heap.size (fun k_ => some k_ ≠ (v211 : Value).ownBlock ∧ some k_ ≠ (.slice Ao69 t218.length co69 : Value).ownBlock ∧ some k_ ≠ (.slice Ao79 t224.length co79 : Value).ownBlock ∧ some k_ ≠ (.slice Ao89 t229.length co89 : Value).ownBlock ∧ some k_ ≠ (.slice Ao99 t234.length co99 : Value).ownBlock ∧ some k_ ≠ (.slice Ao104 t241.length co104 : Value).ownBlock ∧ some k_ ≠ (.slice Ao108 t246.length co108 : Value).ownBlock ∧ some k_ ≠ (v260 : Value).ownBlock ∧ some k_ ≠ (v264 : Value).ownBlock ∧ some k_ ≠ (v268 : Value).ownBlock) v215 t214) := ⟨h1_⟩
      have n2_ : Aside0 (Kd.R (Kd.int .i64) 2 w128 w.heap.size (fun k_ => some k_ ≠ (v211 : Value).ownBlock ∧ some k_ ≠ (v215 : Value).ownBlock ∧ some k_ ≠ (.slice Ao79 t224.length co79 : Value).ownBlock ∧ some k_ ≠ (.slice Ao89 t229.length co89 : Value).ownBlock ∧ some k_ ≠ (.slice Ao99 t234.length co99 : Value).ownBlock ∧ some k_ ≠ (.slice Ao104 t241.length co104 : Value).ownBlock ∧ some k_ ≠ (.slice Ao108 t246.length co108 : Value).ownBlock ∧ some k_ ≠ (v260 : Value).ownBlock ∧ some k_ ≠ (v264 : Value).ownBlock ∧ some k_ ≠ (v268 : Value).ownBlock) (.slice Ao69 t218.length co69) t218) := ⟨h2_⟩
      have n3_ : Aside0 (Kd.R (Kd.int .i64) 2 w128 w.heap.size (fun k_ => some k_ ≠ (v211 : Value).ownBlock ∧ some k_ ≠ (v215 : Value).ownBlock ∧ some k_ ≠ (.slice Ao69 t218.length co69 : Value).ownBlock ∧ some k_ ≠ (.slice Ao89 t229.length co89 : Value).ownBlock ∧ some k_ ≠ (.slice Ao99 t234.length co99 : Value).ownBlock ∧ some k_ ≠ (.slice Ao104 t241.length co104 : Value).ownBlock ∧ some k_ ≠ (.slice Ao108 t246.length co108 : Value).ownBlock ∧ some k_ ≠ (v260 : Value).ownBlock ∧ some k_ ≠ (v264 : Value).ownBlock ∧ some k_ ≠ (v268 : Value).ownBlock) (.slice Ao79 t224.length co79) t251) := ⟨h3_⟩
      have n4_ : Aside0 (Kd.R (Kd.int .i64) 2 w128 w.heap.size (fun k_ => some k_ ≠ (v211 : Value).ownBlock ∧ some k_ ≠ (v215 : Value).ownBlock ∧ some k_ ≠ (.slice Ao69 t218.length co69 : Value).ownBlock ∧ some k_ ≠ (.slice Ao79 t224.length co79 : Value).ownBlock ∧ some k_ ≠ (.slice Ao99 t234.length co99 : Value).ownBlock ∧ some k_ ≠ (.slice Ao104 t241.length co104 : Value).ownBlock ∧ some k_ ≠ (.slice Ao108 t246.length co108 : Value).ownBlock ∧ some k_ ≠ (v260 : Value).ownBlock ∧ some k_ ≠ (v264 : Value).ownBlock ∧ some k_ ≠ (v268 : Value).ownBlock) (.slice Ao89 t229.length co89) t253) := ⟨h4_⟩
      have n5_ : Aside0 (Kd.R (Kd.int .i64) 2 w128 w.heap.size (fun k_ => some k_ ≠ (v211 : Value).ownBlock ∧ some k_ ≠ (v215 : Value).ownBlock ∧ some k_ ≠ (.slice Ao69 t218.length co69 : Value).ownBlock ∧ some k_ ≠ (.slice Ao79 t224.length co79 : Value).ownBlock ∧ some k_ ≠ (.slice Ao89 t229.length co89 : Value).ownBlock ∧ some k_ ≠ (.slice Ao104 t241.length co104 : Value).ownBlock ∧ some k_ ≠ (.slice Ao108 t246.length co108 : Value).ownBlock ∧ some k_ ≠ (v260 : Value).ownBlock ∧ some k_ ≠ (v264 : Value).ownBlock ∧ some k_ ≠ (v268 : Value).ownBlock) (.slice Ao99 t234.length co99) t256) := ⟨h5_⟩
      have n6_ : Aside0 (Kd.R (Kd.int .i64) 2 w128 w.heap.size (fun k_ => some k_ ≠ (v211 : Value).ownBlock ∧ some k_ ≠ (v215 : Value).ownBlock ∧ some k_ ≠ (.slice Ao69 t218.length co69 : Value).ownBlock ∧ some k_ ≠ (.slice Ao79 t224.length co79 : Value).ownBlock ∧ some k_ ≠ (.slice Ao89 t229.length co89 : Value).ownBlock ∧ some k_ ≠ (.slice Ao99 t234.length co99 : Value).ownBlock ∧ some k_ ≠ (.slice Ao108 t246.length co108 : Value).ownBlock ∧ some k_ ≠ (v260 : Value).ownBlock ∧ some k_ ≠ (v264 : Value).ownBlock ∧ some k_ ≠ (v268 : Value).ownBlock) (.slice Ao104 t241.length co104) t241) := ⟨h6_⟩
      have n7_ : Aside0 (Kd.R (Kd.int .i64) 2 w128 w.heap.size (fun k_ => some k_ ≠ (v211 : Value).ownBlock ∧ some k_ ≠ (v215 : Value).ownBlock ∧ some k_ ≠ (.slice Ao69 t218.length co69 : Value).ownBlock ∧ some k_ ≠ (.slice Ao79 t224.length co79 : Value).ownBlock ∧ some k_ ≠ (.slice Ao89 t229.length co89 : Value).ownBlock ∧ some k_ ≠ (.slice Ao99 t234.length co99 : Value).ownBlock ∧ some k_ ≠ (.slice Ao104 t241.length co104 : Value).ownBlock ∧ some k_ ≠ (v260 : Value).ownBlock ∧ some k_ ≠ (v264 : Value).ownBlock ∧ some k_ ≠ (v268 : Value).ownBlock) (.slice Ao108 t246.length co108) t246) := ⟨h7_⟩
      have n8_ : Aside0 (Kd.R (Kd.int .i64) 2 w128 w.heap.size (fun k_ => some k_ ≠ (v211 : Value).ownBlock ∧ some k_ ≠ (v215 : Value).ownBlock ∧ some k_ ≠ (.slice Ao69 t218.length co69 : Value).ownBlock ∧ some k_ ≠ (.slice Ao79 t224.length co79 : Value).ownBlock ∧ some k_ ≠ (.slice Ao89 t229.length co89 : Value).ownBlock ∧ some k_ ≠ (.slice Ao99 t234.length co99 : Value).ownBlock ∧ some k_ ≠ (.slice Ao104 t241.length co104 : Value).ownBlock ∧ some k_ ≠ (.slice Ao108 t246.length co108 : Value).ownBlock ∧ some k_ ≠ (v264 : Value).ownBlock ∧ some k_ ≠ (v268 : Value).ownBlock) v260 t259) := ⟨h8_⟩
      have n9_ : Aside0 (Kd.R (Kd.int .i64) 2 w128 w.heap.size (fun k_ => some k_ ≠ (v211 : Value).ownBlock ∧ some k_ ≠ (v215 : Value).ownBlock ∧ some k_ ≠ (.slice Ao69 t218.length co69 : Value).ownBlock ∧ some k_ ≠ (.slice Ao79 t224.length co79 : Value).ownBlock ∧ some k_ ≠ (.slice Ao89 t229.length co89 : Value).ownBlock ∧ some k_ ≠ (.slice Ao99 t234.length co99 : Value).ownBlock ∧ some k_ ≠ (.slice Ao104 t241.length co104 : Value).ownBlock ∧ some k_ ≠ (.slice Ao108 t246.length co108 : Value).ownBlock ∧ some k_ ≠ (v260 : Value).ownBlock ∧ some k_ ≠ (v268 : Value).ownBlock) v264 t263) := ⟨h9_⟩
      have n10_ : Aside0 (Kd.R (Kd.int .i64) 2 w128 w.heap.size (fun k_ => some k_ ≠ (v211 : Value).ownBlock ∧ some k_ ≠ (v215 : Value).ownBlock ∧ some k_ ≠ (.slice Ao69 t218.length co69 : Value).ownBlock ∧ some k_ ≠ (.slice Ao79 t224.length co79 : Value).ownBlock ∧ some k_ ≠ (.slice Ao89 t229.length co89 : Value).ownBlock ∧ some k_ ≠ (.slice Ao99 t234.length co99 : Value).ownBlock ∧ some k_ ≠ (.slice Ao104 t241.length co104 : Value).ownBlock ∧ some k_ ≠ (.slice Ao108 t246.length co108 : Value).ownBlock ∧ some k_ ≠ (v260 : Value).ownBlock ∧ some k_ ≠ (v264 : Value).ownBlock) v268 t267) := ⟨h10_⟩
      have n11_ : Aside0 (w128.heap[gb205]? = some (.cells #[.int .i64 a0_0, .slice A0_1 l0_1.length c0_1] 32 (0, 0))) := ⟨h11_⟩
      have n12_ : Aside0 (w128.heap[gb206]? = some (.cells #[.int .i64 a1_0, .slice A1_1 l1_1.length c1_1] 32 (0, 0))) := ⟨h12_⟩
      have n13_ : Aside0 (w128.heap[gb222]? = some (.cells #[.int .i64 t217, .slice Ao69 t218.length co69] 24 (0, 0))) := ⟨h13_⟩
      have n14_ : Aside0 (w128.heap[gb227]? = some (.cells #[.int .i64 t223, .slice Ao79 t224.length co79] 24 (0, 0))) := ⟨h14_⟩
      have n15_ : Aside0 (w128.heap[gb232]? = some (.cells #[.int .i64 t228, .slice Ao89 t229.length co89] 24 (0, 0))) := ⟨h15_⟩
      have n16_ : Aside0 (w128.heap[gb238]? = some (.cells #[.int .i64 t233, .slice Ao99 t234.length co99] 24 (0, 0))) := ⟨h16_⟩
      have n17_ : Aside0 (w128.heap[gb271]? = some (.cells #[.int .i64 0, .slice none 0 0] 24 (0, 0))) := ⟨h17_⟩
      have n18_ : Aside0 (w.heap.size ≤ gb271) := ⟨h18_⟩
      have n19_ : Aside0 (w.heap.size ≤ gb271) := ⟨h19_⟩
      have n20_ : Aside0 (gb205 ≠ gb271) := ⟨h20_⟩
      have n21_ : Aside0 (gb271 ≠ gb205) := ⟨h21_⟩
      have n22_ : Aside0 (gb206 ≠ gb271) := ⟨h22_⟩
      have n23_ : Aside0 (gb271 ≠ gb206) := ⟨h23_⟩
      have n24_ : Aside0 (gb222 ≠ gb271) := ⟨h24_⟩
      have n25_ : Aside0 (gb271 ≠ gb222) := ⟨h25_⟩
      have n26_ : Aside0 (gb227 ≠ gb271) := ⟨h26_⟩
      have n27_ : Aside0 (gb271 ≠ gb227) := ⟨h27_⟩
      have n28_ : Aside0 (gb232 ≠ gb271) := ⟨h28_⟩
      have n29_ : Aside0 (gb271 ≠ gb232) := ⟨h29_⟩
      have n30_ : Aside0 (gb238 ≠ gb271) := ⟨h30_⟩
      have n31_ : Aside0 (gb271 ≠ gb238) := ⟨h31_⟩
      have n32_ : Aside0 (Below w.heap.size w w128) := ⟨h32_⟩
      clear HO212 HO216 HO220 HO226 HO231 HO236 HO243 HO248 BK205 BK206 BK222 BK227 BK232 BK238 HB h0_ h1_ h2_ h3_ h4_ h5_ h6_ h7_ h8_ h9_ h10_ h11_ h12_ h13_ h14_ h15_ h16_ h17_ h18_ h19_ h20_ h21_ h22_ h23_ h24_ h25_ h26_ h27_ h28_ h29_ h30_ h31_ h32_
      have HO212 := n0_
      have HO216 := n1_
      have HO220 := n2_
      have HO226 := n3_
      have HO231 := n4_
      have HO236 := n5_
      have HO243 := n6_
      have HO248 := n7_
      have HO261 := n8_
      have HO265 := n9_
      have HO269 := n10_
      have BK205 := n11_
      have BK206 := n12_
      have BK222 := n13_
      have BK227 := n14_
      have BK232 := n15_
      have BK238 := n16_
      have BK271 := n17_
      have GW271 := n18_
      have GE271 := n19_
      have NB205_271 := n20_
      have NB271_205 := n21_
      have NB206_271 := n22_
      have NB271_206 := n23_
      have NB222_271 := n24_
      have NB271_222 := n25_
      have NB227_271 := n26_
      have NB271_227 := n27_
      have NB232_271 := n28_
      have NB271_232 := n29_
      have NB238_271 := n30_
      have NB271_238 := n31_
      have HB := n32_
      clear n0_ n1_ n2_ n3_ n4_ n5_ n6_ n7_ n8_ n9_ n10_ n11_ n12_ n13_ n14_ n15_ n16_ n17_ n18_ n19_ n20_ n21_ n22_ n23_ n24_ n25_ n26_ n27_ n28_ n29_ n30_ n31_ n32_
      have hHeld : w128.cell? ⟨gb205, 0, none⟩ = some (.int .i64 a0_0) ∧ w128.cell? ⟨gb205, 1, none⟩ = some (.slice A0_1 l0_1.length c0_1) ∧ w128.cell? ⟨gb206, 0, none⟩ = some (.int .i64 a1_0) ∧ w128.cell? ⟨gb206, 1, none⟩ = some (.slice A1_1 l1_1.length c1_1) := hS_
      obtain ⟨Ao130, co130, eo130⟩ := Kd.R_slice HO269.out
      (first | subst eo130 | (injection eo130 with f1_ f2_ f3_; have f4_ := f1_.symm; have f5_ := f3_.symm; clear f1_ f2_ f3_; subst f4_; subst f5_))
      refine norm_ (a' := ?_) ?_ ?_
      rotate_left
      · simp only [putAll, Act.put, List.setIfInBounds_toArray, List.set_cons_zero, List.set_cons_succ]
        rfl
      refine one_ (i := 10) (N := none) #[true, true, true, true, true, true, true, true, true, true, true, false] rfl rfl (one_of HT_.out (by kernel_rfl)) (by decide) (fun K hK => ?_)
      have hs129 : w128.cell? ⟨gb271, 0, none⟩ = some (.int .i64 0) := (blk_cell BK271.out 0).trans rfl
      have hfs129 := blk_frozen BK271.out 0
      have hns129_0 := NB205_271.out
      have hns129_1 := NB206_271.out
      have hns129_2 := NB222_271.out
      have hns129_3 := NB227_271.out
      have hns129_4 := NB232_271.out
      have hns129_5 := NB238_271.out
      have hms129_0 := NB271_205.out
      have hms129_1 := NB271_206.out
      have hms129_2 := NB271_222.out
      have hms129_3 := NB271_227.out
      have hms129_4 := NB271_232.out
      have hms129_5 := NB271_238.out
      have hs131 : w128.cell? ⟨gb271, 1, none⟩ = some (.slice none 0 0) := (blk_cell BK271.out 1).trans rfl
      have hfs131 := blk_frozen BK271.out 1
      have hns131_0 := NB205_271.out
      have hns131_1 := NB206_271.out
      have hns131_2 := NB222_271.out
      have hns131_3 := NB227_271.out
      have hns131_4 := NB232_271.out
      have hns131_5 := NB238_271.out
      have hms131_0 := NB271_205.out
      have hms131_1 := NB271_206.out
      have hms131_2 := NB271_222.out
      have hms131_3 := NB271_227.out
      have hms131_4 := NB271_232.out
      have hms131_5 := NB271_238.out
      refine skip_ (w1 := ?_) (by rfl) rfl ?_ ?_
      rotate_left
      · go_simp
        rfl
      refine hK.out _ _ ⟨((cell_far (p := ⟨gb271, _, none⟩) NB205_271.out _).trans (((cell_far (p := ⟨gb271, _, none⟩) NB205_271.out _).trans (hHeld.1)))), ((cell_far (p := ⟨gb271, _, none⟩) NB205_271.out _).trans (((cell_far (p := ⟨gb271, _, none⟩) NB205_271.out _).trans (hHeld.2.1)))), ((cell_far (p := ⟨gb271, _, none⟩) NB206_271.out _).trans (((cell_far (p := ⟨gb271, _, none⟩) NB206_271.out _).trans (hHeld.2.2.1)))), ((cell_far (p := ⟨gb271, _, none⟩) NB206_271.out _).trans (((cell_far (p := ⟨gb271, _, none⟩) NB206_271.out _).trans (hHeld.2.2.2))))⟩ (fun hHeld => ?_)
      clear hK K
      refine pure_ (i := 11) (N := some 18) (v := ?_) (a' := ?_) #[true, true, true, true, true, true, true, true, true, true, true, true] rfl rfl (any_of HT_.out (by kernel_rfl)) (fun _ _ _ h => h) (Or.inl ⟨by rfl, ?_⟩) ?_ ?_
      rotate_left
      · intro w'
        go_simp
        with_reducible rfl
      rotate_left
      · simp only [Act.put, List.setIfInBounds_toArray, List.set_cons_zero, List.set_cons_succ, i64_w, i32_w]
        rfl
      refine done_ (done_of HT_.out (by kernel_rfl)) ?_
      have hnb132 := NB271_205.out
      have hnc132 := NB205_271.out
      have hnb133 := NB271_206.out
      have hnc133 := NB206_271.out
      have hnb134 := NB271_222.out
      have hnc134 := NB222_271.out
      have hnb135 := NB271_227.out
      have hnc135 := NB227_271.out
      have hnb136 := NB271_232.out
      have hnc136 := NB232_271.out
      have hnb137 := NB271_238.out
      have hnc137 := NB238_271.out
      have hcz138_0 : w128.cell? ⟨gb271, 0, none⟩ = some (.int .i64 0) := (blk_cell BK271.out 0).trans rfl
      have hcz138_1 : w128.cell? ⟨gb271, 1, none⟩ = some (.slice none 0 0) := (blk_cell BK271.out 1).trans rfl
      have hfz138_0 := blk_frozen BK271.out 0
      have hfz138_1 := blk_frozen BK271.out 1
      have hcz139_0 : w128.cell? ⟨gb222, 0, none⟩ = some (.int .i64 t217) := (blk_cell BK222.out 0).trans rfl
      have hcz139_1 : w128.cell? ⟨gb222, 1, none⟩ = some (.slice Ao69 t218.length co69) := (blk_cell BK222.out 1).trans rfl
      have hfz139_0 := blk_frozen BK222.out 0
      have hfz139_1 := blk_frozen BK222.out 1
      try go_wp2_with (first | ((with_reducible refine gate_callee (f := 14) rfl ?_); refine goesL_ (some 109) rfl rfl Try.func14 (by kernel_rfl) rfl #[.agg #[.int .i64 t266, .slice Ao130 t267.length co130], .agg #[.int .i64 t217, .slice Ao69 t218.length co69]] rfl (by (try simp only [List.map_toArray, List.map_cons, List.map_nil]); first | done | rfl | (simp only [List.length_drop, List.length_take]; rfl)) ?_; (with_reducible refine (laws_eqRing.calls k t266 _ _ t267 t217 _ _ t218 true _ ?side1 ?side2 ?side3 ?side4 A47.out).mono ?_); (case side1 => exact (Kd.R_reads' (rk (Kd.R_far (p := ⟨gb271, 1, none⟩) (Kd.R_far (p := ⟨gb271, 0, none⟩) (Kd.R_types HO269.out BK271.out (by decide)) (fun _ hk => hk.2) (.int .i64 t266)) (fun _ hk => hk.2) (.slice Ao130 t267.length co130)))).2.2); (case side2 => exact (Kd.R_reads' HO269.out).2.1); (case side3 => exact (Kd.R_reads' (rk (Kd.R_far (p := ⟨gb271, 1, none⟩) (Kd.R_far (p := ⟨gb271, 0, none⟩) (Kd.R_types HO220.out BK271.out (by decide)) (fun _ hk => hk.2) (.int .i64 t266)) (fun _ hk => hk.2) (.slice Ao130 t267.length co130)))).2.2); (case side4 => exact (Kd.R_reads' HO220.out).2.1); rintro e w140 ⟨rfl, hb⟩; refine ⟨_, rfl, ?_⟩; have n0_ := Aside0.mk (Kd.R_below (rk (Kd.R_mono (Kd.R_far (p := ⟨gb271, 1, none⟩) (Kd.R_far (p := ⟨gb271, 0, none⟩) (Kd.R_types HO212.out BK271.out (by decide)) (fun _ hk => hk.2) (.int .i64 t266)) (fun _ hk => hk.2) (.slice Ao130 t267.length co130)) (fun _ h_ => h_.1))) hb); have n1_ := Aside0.mk (Kd.R_below (rk (Kd.R_mono (Kd.R_far (p := ⟨gb271, 1, none⟩) (Kd.R_far (p := ⟨gb271, 0, none⟩) (Kd.R_types HO216.out BK271.out (by decide)) (fun _ hk => hk.2) (.int .i64 t266)) (fun _ hk => hk.2) (.slice Ao130 t267.length co130)) (fun _ h_ => h_.1))) hb); have n2_ := Aside0.mk (Kd.R_below (rk (Kd.R_mono (Kd.R_far (p := ⟨gb271, 1, none⟩) (Kd.R_far (p := ⟨gb271, 0, none⟩) (Kd.R_types HO220.out BK271.out (by decide)) (fun _ hk => hk.2) (.int .i64 t266)) (fun _ hk => hk.2) (.slice Ao130 t267.length co130)) (fun _ h_ => h_.1))) hb); have n3_ := Aside0.mk (Kd.R_below (rk (Kd.R_mono (Kd.R_far (p := ⟨gb271, 1, none⟩) (Kd.R_far (p := ⟨gb271, 0, none⟩) (Kd.R_types HO226.out BK271.out (by decide)) (fun _ hk => hk.2) (.int .i64 t266)) (fun _ hk => hk.2) (.slice Ao130 t267.length co130)) (fun _ h_ => h_.1))) hb); have n4_ := Aside0.mk (Kd.R_below (rk (Kd.R_mono (Kd.R_far (p := ⟨gb271, 1, none⟩) (Kd.R_far (p := ⟨gb271, 0, none⟩) (Kd.R_types HO231.out BK271.out (by decide)) (fun _ hk => hk.2) (.int .i64 t266)) (fun _ hk => hk.2) (.slice Ao130 t267.length co130)) (fun _ h_ => h_.1))) hb); have n5_ := Aside0.mk (Kd.R_below (rk (Kd.R_mono (Kd.R_far (p := ⟨gb271, 1, none⟩) (Kd.R_far (p := ⟨gb271, 0, none⟩) (Kd.R_types HO236.out BK271.out (by decide)) (fun _ hk => hk.2) (.int .i64 t266)) (fun _ hk => hk.2) (.slice Ao130 t267.length co130)) (fun _ h_ => h_.1))) hb); have n6_ := Aside0.mk (Kd.R_below (rk (Kd.R_mono (Kd.R_far (p := ⟨gb271, 1, none⟩) (Kd.R_far (p := ⟨gb271, 0, none⟩) (Kd.R_types HO243.out BK271.out (by decide)) (fun _ hk => hk.2) (.int .i64 t266)) (fun _ hk => hk.2) (.slice Ao130 t267.length co130)) (fun _ h_ => h_.1))) hb); have n7_ := Aside0.mk (Kd.R_below (rk (Kd.R_mono (Kd.R_far (p := ⟨gb271, 1, none⟩) (Kd.R_far (p := ⟨gb271, 0, none⟩) (Kd.R_types HO248.out BK271.out (by decide)) (fun _ hk => hk.2) (.int .i64 t266)) (fun _ hk => hk.2) (.slice Ao130 t267.length co130)) (fun _ h_ => h_.1))) hb); have n8_ := Aside0.mk (Kd.R_below (rk (Kd.R_mono (Kd.R_far (p := ⟨gb271, 1, none⟩) (Kd.R_far (p := ⟨gb271, 0, none⟩) (Kd.R_types HO261.out BK271.out (by decide)) (fun _ hk => hk.2) (.int .i64 t266)) (fun _ hk => hk.2) (.slice Ao130 t267.length co130)) (fun _ h_ => h_.1))) hb); have n9_ := Aside0.mk (Kd.R_below (rk (Kd.R_mono (Kd.R_far (p := ⟨gb271, 1, none⟩) (Kd.R_far (p := ⟨gb271, 0, none⟩) (Kd.R_types HO265.out BK271.out (by decide)) (fun _ hk => hk.2) (.int .i64 t266)) (fun _ hk => hk.2) (.slice Ao130 t267.length co130)) (fun _ h_ => h_.1))) hb); have n10_ := Aside0.mk (Kd.R_below (rk (Kd.R_mono (Kd.R_far (p := ⟨gb271, 1, none⟩) (Kd.R_far (p := ⟨gb271, 0, none⟩) (Kd.R_types HO269.out BK271.out (by decide)) (fun _ hk => hk.2) (.int .i64 t266)) (fun _ hk => hk.2) (.slice Ao130 t267.length co130)) (fun _ h_ => h_.1))) hb); have n11_ := Aside0.mk (blk_below (g := gb205) (o := .cells #[.int .i64 a0_0, .slice A0_1 l0_1.length c0_1] 32 (0, 0)) (by (with_reducible repeat (first | refine blk_drewN ?_ _ | refine blk_drew ?_ | refine blk_alloc ?_ _)); refine blk_far ?_ NB205_271.out _; (with_reducible repeat (first | refine blk_drewN ?_ _ | refine blk_drew ?_ | refine blk_alloc ?_ _)); refine blk_far ?_ NB205_271.out _; (with_reducible repeat (first | refine blk_drewN ?_ _ | refine blk_drew ?_ | refine blk_alloc ?_ _)); exact BK205.out) hb); have n12_ := Aside0.mk (blk_below (g := gb206) (o := .cells #[.int .i64 a1_0, .slice A1_1 l1_1.length c1_1] 32 (0, 0)) (by (with_reducible repeat (first | refine blk_drewN ?_ _ | refine blk_drew ?_ | refine blk_alloc ?_ _)); refine blk_far ?_ NB206_271.out _; (with_reducible repeat (first | refine blk_drewN ?_ _ | refine blk_drew ?_ | refine blk_alloc ?_ _)); refine blk_far ?_ NB206_271.out _; (with_reducible repeat (first | refine blk_drewN ?_ _ | refine blk_drew ?_ | refine blk_alloc ?_ _)); exact BK206.out) hb); have n13_ := Aside0.mk (blk_below (g := gb222) (o := .cells #[.int .i64 t217, .slice Ao69 t218.length co69] 24 (0, 0)) (by (with_reducible repeat (first | refine blk_drewN ?_ _ | refine blk_drew ?_ | refine blk_alloc ?_ _)); refine blk_far ?_ NB222_271.out _; (with_reducible repeat (first | refine blk_drewN ?_ _ | refine blk_drew ?_ | refine blk_alloc ?_ _)); refine blk_far ?_ NB222_271.out _; (with_reducible repeat (first | refine blk_drewN ?_ _ | refine blk_drew ?_ | refine blk_alloc ?_ _)); exact BK222.out) hb); have n14_ := Aside0.mk (blk_below (g := gb227) (o := .cells #[.int .i64 t223, .slice Ao79 t224.length co79] 24 (0, 0)) (by (with_reducible repeat (first | refine blk_drewN ?_ _ | refine blk_drew ?_ | refine blk_alloc ?_ _)); refine blk_far ?_ NB227_271.out _; (with_reducible repeat (first | refine blk_drewN ?_ _ | refine blk_drew ?_ | refine blk_alloc ?_ _)); refine blk_far ?_ NB227_271.out _; (with_reducible repeat (first | refine blk_drewN ?_ _ | refine blk_drew ?_ | refine blk_alloc ?_ _)); exact BK227.out) hb); have n15_ := Aside0.mk (blk_below (g := gb232) (o := .cells #[.int .i64 t228, .slice Ao89 t229.length co89] 24 (0, 0)) (by (with_reducible repeat (first | refine blk_drewN ?_ _ | refine blk_drew ?_ | refine blk_alloc ?_ _)); refine blk_far ?_ NB232_271.out _; (with_reducible repeat (first | refine blk_drewN ?_ _ | refine blk_drew ?_ | refine blk_alloc ?_ _)); refine blk_far ?_ NB232_271.out _; (with_reducible repeat (first | refine blk_drewN ?_ _ | refine blk_drew ?_ | refine blk_alloc ?_ _)); exact BK232.out) hb); have n16_ := Aside0.mk (blk_below (g := gb238) (o := .cells #[.int .i64 t233, .slice Ao99 t234.length co99] 24 (0, 0)) (by (with_reducible repeat (first | refine blk_drewN ?_ _ | refine blk_drew ?_ | refine blk_alloc ?_ _)); refine blk_far ?_ NB238_271.out _; (with_reducible repeat (first | refine blk_drewN ?_ _ | refine blk_drew ?_ | refine blk_alloc ?_ _)); refine blk_far ?_ NB238_271.out _; (with_reducible repeat (first | refine blk_drewN ?_ _ | refine blk_drew ?_ | refine blk_alloc ?_ _)); exact BK238.out) hb); have n17_ := Aside0.mk (blk_below (g := gb271) (o := .cells #[.int .i64 t266, .slice Ao130 t267.length co130] 24 (0, 0)) (by (with_reducible repeat (first | refine blk_drewN ?_ _ | refine blk_drew ?_ | refine blk_alloc ?_ _)); refine blk_put (cs := #[.int .i64 t266, .slice none 0 0]) ?_ 1 _ rfl; (with_reducible repeat (first | refine blk_drewN ?_ _ | refine blk_drew ?_ | refine blk_alloc ?_ _)); refine blk_put (cs := #[.int .i64 0, .slice none 0 0]) ?_ 0 _ rfl; (with_reducible repeat (first | refine blk_drewN ?_ _ | refine blk_drew ?_ | refine blk_alloc ?_ _)); exact BK271.out) hb); have n18_ := Aside0.mk (below_step (bks HB.out) hb); clear HO212; clear HO216; clear HO220; clear HO226; clear HO231; clear HO236; clear HO243; clear HO248; clear HO261; clear HO265; clear HO269; clear BK205; clear BK206; clear BK222; clear BK227; clear BK232; clear BK238; clear BK271; clear HB; have HO212 := n0_; have HO216 := n1_; have HO220 := n2_; have HO226 := n3_; have HO231 := n4_; have HO236 := n5_; have HO243 := n6_; have HO248 := n7_; have HO261 := n8_; have HO265 := n9_; have HO269 := n10_; have BK205 := n11_; have BK206 := n12_; have BK222 := n13_; have BK227 := n14_; have BK232 := n15_; have BK238 := n16_; have BK271 := n17_; have HB := n18_; clear n0_ n1_ n2_ n3_ n4_ n5_ n6_ n7_ n8_ n9_ n10_ n11_ n12_ n13_ n14_ n15_ n16_ n17_ n18_; (try clear hb); (try clear hb2); (try clear hk); (try clear hi); have hcz141_0 : w140.cell? ⟨gb238, 0, none⟩ = some (.int .i64 t233) := (blk_cell BK238.out 0).trans rfl; have hcz141_1 : w140.cell? ⟨gb238, 1, none⟩ = some (.slice Ao99 t234.length co99) := (blk_cell BK238.out 1).trans rfl; have hfz141_0 := blk_frozen BK238.out 0; have hfz141_1 := blk_frozen BK238.out 1) | ((with_reducible refine gate_callee (f := 16) rfl ?_); refine goesL_ (some 118) rfl rfl Try.func16 (by kernel_rfl) rfl #[.agg #[.int .i64 t233, .slice Ao99 t256.length co99], .int .i64 1] rfl (by (try simp only [List.map_toArray, List.map_cons, List.map_nil]); first | done | (rw [show t256.length = t234.length from (Kd.R_reads' HO236.out).1.symm] <;> rfl) | rfl | (simp only [List.length_drop, List.length_take]; rfl)) ?_; (with_reducible refine (laws_heldRing.calls k t233 _ _ t256 1 t273 _ ?side1 ?side2 A50.out).mono ?_); (case side1 => repeat (first | exact (Kd.R_reads' HO236.out).2.2 | (with_reducible refine Kd.C_alloc ?_ _) | (with_reducible refine Kd.C_drewN ?_ _) | (with_reducible refine Kd.C_drew ?_))); (case side2 => rw [show t256.length = t234.length from (Kd.R_reads' HO236.out).1.symm]; exact (Kd.R_reads' HO236.out).2.1); rintro e w142 ⟨rfl, hb⟩; refine ⟨_, rfl, ?_⟩; have n0_ := Aside0.mk (Kd.R_below (rk HO212.out) hb); have n1_ := Aside0.mk (Kd.R_below (rk HO216.out) hb); have n2_ := Aside0.mk (Kd.R_below (rk HO220.out) hb); have n3_ := Aside0.mk (Kd.R_below (rk HO226.out) hb); have n4_ := Aside0.mk (Kd.R_below (rk HO231.out) hb); have n5_ := Aside0.mk (Kd.R_below (rk HO236.out) hb); have n6_ := Aside0.mk (Kd.R_below (rk HO243.out) hb); have n7_ := Aside0.mk (Kd.R_below (rk HO248.out) hb); have n8_ := Aside0.mk (Kd.R_below (rk HO261.out) hb); have n9_ := Aside0.mk (Kd.R_below (rk HO265.out) hb); have n10_ := Aside0.mk (Kd.R_below (rk HO269.out) hb); have n11_ := Aside0.mk (blk_below (pk BK205.out) hb); have n12_ := Aside0.mk (blk_below (pk BK206.out) hb); have n13_ := Aside0.mk (blk_below (pk BK222.out) hb); have n14_ := Aside0.mk (blk_below (pk BK227.out) hb); have n15_ := Aside0.mk (blk_below (pk BK232.out) hb); have n16_ := Aside0.mk (blk_below (pk BK238.out) hb); have n17_ := Aside0.mk (blk_below (pk BK271.out) hb); have n18_ := Aside0.mk (below_step (bks HB.out) hb); clear HO212; clear HO216; clear HO220; clear HO226; clear HO231; clear HO236; clear HO243; clear HO248; clear HO261; clear HO265; clear HO269; clear BK205; clear BK206; clear BK222; clear BK227; clear BK232; clear BK238; clear BK271; clear HB; have HO212 := n0_; have HO216 := n1_; have HO220 := n2_; have HO226 := n3_; have HO231 := n4_; have HO236 := n5_; have HO243 := n6_; have HO248 := n7_; have HO261 := n8_; have HO265 := n9_; have HO269 := n10_; have BK205 := n11_; have BK206 := n12_; have BK222 := n13_; have BK227 := n14_; have BK232 := n15_; have BK238 := n16_; have BK271 := n17_; have HB := n18_; clear n0_ n1_ n2_ n3_ n4_ n5_ n6_ n7_ n8_ n9_ n10_ n11_ n12_ n13_ n14_ n15_ n16_ n17_ n18_; (try clear hb); (try clear hb2); (try clear hk); (try clear hi)))
      go_ret
      exact ⟨by first | rfl | (simp [errW_none, errW_some] <;> rfl) | (simp [*, errW_none, errW_some] <;> rfl), bks HB.out⟩
/-- THE ONE PURE STATEMENT of laws_FnExactAddRings. -/
def laws_FnExactAddRings.Pure : Prop := ∀ (a0_0 : Int) (l0_1 : List Int) (a1_0 : Int) (l1_1 : List Int) (a2 : Int), (Lit.int .i64 a0_0).wf = true → l0_1.length ≤ maxLen → (∀ x ∈ l0_1, (Lit.int .i64 x).wf = true) → (Lit.int .i64 a1_0).wf = true → l1_1.length ≤ maxLen → (∀ x ∈ l1_1, (Lit.int .i64 x).wf = true) → (Lit.int .i64 a2).wf = true → ∃ k, laws_FnExactAddRings.f k a0_0 l0_1 a1_0 l1_1 a2 = some true
theorem laws_FnExactAddRings.walk (P : laws_FnExactAddRings.Pure) (a0_0 : Int) (a0_1 : Option Addr) (len0_1 cap0_1 : Nat) (z0_1 : List Int) (a1_0 : Int) (a1_1 : Option Addr) (len1_1 cap1_1 : Nat) (z1_1 : List Int) (a2 : Int) (w : World) (w0_0 : (Lit.int .i64 a0_0).wf = true) (w0_1 : ((a0_1 = none ∧ len0_1 = 0 ∧ cap0_1 = 0 ∧ z0_1 = []) ∨ ∃ x, a0_1 = some x ∧ len0_1 ≤ cap0_1 ∧ cap0_1 ≤ maxLen ∧ z0_1.length = cap0_1 ∧ (∀ i, i < z0_1.length → w.cell? (x.add i) = some (.int .i64 (z0_1.getD i 0))) ∧ ∀ n ∈ z0_1, (Lit.int .i64 n).wf = true)) (w1_0 : (Lit.int .i64 a1_0).wf = true) (w1_1 : ((a1_1 = none ∧ len1_1 = 0 ∧ cap1_1 = 0 ∧ z1_1 = []) ∨ ∃ x, a1_1 = some x ∧ len1_1 ≤ cap1_1 ∧ cap1_1 ≤ maxLen ∧ z1_1.length = cap1_1 ∧ (∀ i, i < z1_1.length → w.cell? (x.add i) = some (.int .i64 (z1_1.getD i 0))) ∧ ∀ n ∈ z1_1, (Lit.int .i64 n).wf = true)) (w2 : (Lit.int .i64 a2).wf = true) :
    Calls Try.prog 7 #[.agg #[.int .i64 a0_0, .slice a0_1 len0_1 cap0_1], .agg #[.int .i64 a1_0, .slice a1_1 len1_1 cap1_1], .int .i64 a2] w fun e w' => e = .returned (.bool true) ∧ Below w.heap.size w w' := by
  obtain ⟨l0_1, rfl, hr0_1, hm0_1, hw0_1, hc0_1⟩ := ReadsInt.ofRowC w0_1
  obtain ⟨l1_1, rfl, hr1_1, hm1_1, hw1_1, hc1_1⟩ := ReadsInt.ofRowC w1_1
  obtain ⟨k, h⟩ := P a0_0 l0_1 a1_0 l1_1 a2 w0_0 hm0_1 hw0_1 w1_0 hm1_1 hw1_1 w2
  refine (laws_FnExactAddRings.calls k a0_0 _ _ l0_1 a1_0 _ _ l1_1 a2 true w (Kd.C_of_reads (d := (0 : Int)) (h1 := fun _ => rfl) hr0_1) hc0_1 (Kd.C_of_reads (d := (0 : Int)) (h1 := fun _ => rfl) hr1_1) hc1_1 h).mono ?_
  rintro e w' ⟨rfl, hd⟩
  exact ⟨rfl, hd⟩

end Go.Proofs.Ythkdkiifchefhaa.PFnExactAddRings
