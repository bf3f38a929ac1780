-- LAID BY pp.py (a program of this repo): what the kit's print tells of this seat's functions, with contracts by hand
import Derived.Test.YthkdkiifchefhaaZPFnRingsx0
import Derived.Test.YthkdkiifchefhaaZPFnRingsx1
import Derived.Test.YthkdkiifchefhaaZPFnRingsx2
import Derived.Test.YthkdkiifchefhaaZPFnRingsx4
namespace Go.Proofs.Ythkdkiifchefhaa.PFnRings
open Go.RowKit Go.Proofs.YthkdkiifchefhaaW.PrintWords Go.Proofs.YthkdkiifchefhaaW.PrintLast Go.Proofs.YthkdkiifchefhaaW.PrintMore
attribute [local go_sem] max2_int min2_int max_two min_two max_three min_three max_four min_four   -- for this text's walks alone
set_option linter.unusedVariables false
set_option linter.unusedSimpArgs false

/-! ### spec_AddRings: function 25 -/
mutual
def spec_AddRings.j0 : Nat → Int → Int → Bool → Int → List Int → Int → List Int → Option (Int × List Int × Int)
 | 0, _, _, _, _, _, _, _ => none
 | k + 1, x2, x8, x22, x174000, x174001, x175000, x175001 => if x22 = true then (spec_AddRings.j1 k x2 2 x174000 x174001 x175000 x175001) else (spec_AddRings.j1 k x2 x8 x174000 x174001 x175000 x175001)
def spec_AddRings.j1 : Nat → Int → Int → Int → List Int → Int → List Int → Option (Int × List Int × Int)
 | 0, _, _, _, _, _, _ => none
 | k + 1, x2, x8, x174000, x174001, x175000, x175001 => if x8 = 0 then ((spec_l10Zero.f k x174000).bind fun bt178 => (spec_AddRings.l0 k x2 0 x174000 x174001 x175000 x175001 bt178.1 bt178.2)) else (some (0, ([] : List Int), x8))
def spec_AddRings.l0 : Nat → Int → Int → Int → List Int → Int → List Int → Int → List Int → Option (Int × List Int × Int)
 | 0, _, _, _, _, _, _, _, _ => none
 | k + 1, x2, x10, x174000, x174001, x175000, x175001, x183000, x183001 => if x10 < (x183001.length : Int) then (if 0 ≤ x10 then (if x10 < (x174001.length : Int) then (if x10 < (x175001.length : Int) then (spec_AddRings.l0 k x2 (wrap64 (x10 + 1)) x174000 x174001 x175000 x175001 x183000 (x183001.set (x10 : Int).toNat (wrap64 ((rd x174001 x10) + (wrap64 (x2 * (rd x175001 x10))))))) else (none)) else (none)) else (none)) else ((spec_l10Told.f k x183000 x183001).bind fun bt186 => (some (bt186.1, bt186.2.1, bt186.2.2)))
end
def spec_AddRings.f (k : Nat) (a0_0 : Int) (l0_1 : List Int) (a1_0 : Int) (l1_1 : List Int) (a2 : Int) : Option (Int × List Int × Int) := (spec_l10Like.f k a0_0 l0_1 a1_0 l1_1).bind fun t176 => (if t176 = 0 then ((spec_l01In.f a2 (-1000) 1000).bind fun t177 => (spec_AddRings.j0 k a2 t176 (!t177) a0_0 l0_1 a1_0 l1_1)) else (spec_AddRings.j0 k a2 t176 false a0_0 l0_1 a1_0 l1_1))
theorem spec_AddRings.mono_l : ∀ k, (∀ y0 y1 y2 y3 y4 y5 y6, LeO (spec_AddRings.j0 k y0 y1 y2 y3 y4 y5 y6) (spec_AddRings.j0 (k + 1) y0 y1 y2 y3 y4 y5 y6)) ∧ (∀ y0 y1 y2 y3 y4 y5, LeO (spec_AddRings.j1 k y0 y1 y2 y3 y4 y5) (spec_AddRings.j1 (k + 1) y0 y1 y2 y3 y4 y5)) ∧ (∀ y0 y1 y2 y3 y4 y5 y6 y7, LeO (spec_AddRings.l0 k y0 y1 y2 y3 y4 y5 y6 y7) (spec_AddRings.l0 (k + 1) y0 y1 y2 y3 y4 y5 y6 y7))
 | 0 => ⟨fun _ _ _ _ _ _ _ r h => by simp [spec_AddRings.j0] at h, fun _ _ _ _ _ _ r h => by simp [spec_AddRings.j1] at h, fun _ _ _ _ _ _ _ _ r h => by simp [spec_AddRings.l0] at h⟩
 | k + 1 => by
  obtain ⟨ih0, ih1, ih2⟩ := spec_AddRings.mono_l k
  refine ⟨?_, ?_, ?_⟩
  ·intro y0 y1 y2 y3 y4 y5 y6
   unfold spec_AddRings.j0
   repeat' first | (with_reducible first | exact ih0 _ _ _ _ _ _ _ | exact ih1 _ _ _ _ _ _ | exact ih2 _ _ _ _ _ _ _ _ | exact spec_l10Like.mono _ _ _ _ _ | exact spec_l10Told.mono _ _ _ | exact spec_l10Zero.mono _ _ | exact LeO.refl _ | exact LeO.none _ | refine LeO.ite ?_ ?_ | refine LeO.bind ?_ (fun _ => ?_)) | exact ih0 _ _ _ _ _ _ _ | exact ih1 _ _ _ _ _ _ | exact ih2 _ _ _ _ _ _ _ _ | exact LeO.none _ | refine LeO.ite ?_ ?_ | refine LeO.bind ?_ (fun _ => ?_)
  ·intro y0 y1 y2 y3 y4 y5
   unfold spec_AddRings.j1
   repeat' first | (with_reducible first | exact ih0 _ _ _ _ _ _ _ | exact ih1 _ _ _ _ _ _ | exact ih2 _ _ _ _ _ _ _ _ | exact spec_l10Like.mono _ _ _ _ _ | exact spec_l10Told.mono _ _ _ | exact spec_l10Zero.mono _ _ | exact LeO.refl _ | exact LeO.none _ | refine LeO.ite ?_ ?_ | refine LeO.bind ?_ (fun _ => ?_)) | exact ih0 _ _ _ _ _ _ _ | exact ih1 _ _ _ _ _ _ | exact ih2 _ _ _ _ _ _ _ _ | exact LeO.none _ | refine LeO.ite ?_ ?_ | refine LeO.bind ?_ (fun _ => ?_)
  ·intro y0 y1 y2 y3 y4 y5 y6 y7
   unfold spec_AddRings.l0
   repeat' first | (with_reducible first | exact ih0 _ _ _ _ _ _ _ | exact ih1 _ _ _ _ _ _ | exact ih2 _ _ _ _ _ _ _ _ | exact spec_l10Like.mono _ _ _ _ _ | exact spec_l10Told.mono _ _ _ | exact spec_l10Zero.mono _ _ | exact LeO.refl _ | exact LeO.none _ | refine LeO.ite ?_ ?_ | refine LeO.bind ?_ (fun _ => ?_)) | exact ih0 _ _ _ _ _ _ _ | exact ih1 _ _ _ _ _ _ | exact ih2 _ _ _ _ _ _ _ _ | exact LeO.none _ | refine LeO.ite ?_ ?_ | refine LeO.bind ?_ (fun _ => ?_)
theorem spec_AddRings.mono : ∀ a0 a1 a2 a3 a4 k, LeO (spec_AddRings.f k a0 a1 a2 a3 a4) (spec_AddRings.f (k + 1) a0 a1 a2 a3 a4) := by
 intro a0 a1 a2 a3 a4 k
 obtain ⟨ih0, ih1, ih2⟩ := spec_AddRings.mono_l k
 unfold spec_AddRings.f
 repeat' first | (with_reducible first | exact ih0 _ _ _ _ _ _ _ | exact ih1 _ _ _ _ _ _ | exact ih2 _ _ _ _ _ _ _ _ | exact spec_l10Like.mono _ _ _ _ _ | exact spec_l10Told.mono _ _ _ | exact spec_l10Zero.mono _ _ | exact LeO.refl _ | exact LeO.none _ | refine LeO.ite ?_ ?_ | refine LeO.bind ?_ (fun _ => ?_)) | exact ih0 _ _ _ _ _ _ _ | exact ih1 _ _ _ _ _ _ | exact ih2 _ _ _ _ _ _ _ _ | exact LeO.none _ | refine LeO.ite ?_ ?_ | refine LeO.bind ?_ (fun _ => ?_)
def spec_AddRings.T10 : Bool × List (List Nat × List Nat) := (true, [([], []), ([0], [0]), ([], []), ([], []), ([3], [3]), ([], []), ([4, 5], [4, 5]), ([6], [6]), ([], []), ([], []), ([9], [9]), ([], []), ([10, 11], [10, 11]), ([12], [12]), ([8, 13], [8, 13]), ([7, 14], [7, 14]), ([1, 2, 0, 1, 2, 3, 4, 5, 6, 7, 8, 9, 10, 11, 12, 13, 14, 15], [1, 2]), ([16, 15, 0, 1, 2, 3, 4, 5, 6, 7, 8, 9, 10, 11, 12, 13, 14, 15], [15, 16])])
def spec_AddRings.B10 : List Nat := [0, 1, 0, 0, 8, 0, 56, 120, 0, 0, 512, 0, 3584, 7680, 16128, 32760, 65535, 131071]
theorem spec_AddRings.tab10 : rtab .any (opsOf Try.f25 10) = spec_AddRings.T10 := by kernel_rfl
theorem spec_AddRings.bits10 : waitsOk spec_AddRings.T10.2 spec_AddRings.B10 = true := by kernel_rfl
set_option maxHeartbeats 8000000 in
set_option maxRecDepth 100000 in
theorem spec_AddRings.calls (k : Nat) (a0_0 : Int) (A0_1 : Option Addr) (c0_1 : Nat) (l0_1 : List Int) (a1_0 : Int) (A1_1 : Option Addr) (c1_1 : Nat) (l1_1 : List Int) (a2 : Int) (r1 : Int) (r2 : List Int) (r3 : Int) (w : World) (hr0_1 : Kd.C (Kd.int .i64) w A0_1 l0_1.length l0_1) (hc0_1 : l0_1.length ≤ c0_1) (hr1_1 : Kd.C (Kd.int .i64) w A1_1 l1_1.length l1_1) (hc1_1 : l1_1.length ≤ c1_1) (h : spec_AddRings.f k a0_0 l0_1 a1_0 l1_1 a2 = some (r1, r2, r3)) :
  Calls Try.prog 25 #[.agg #[.int .i64 a0_0, .slice A0_1 l0_1.length c0_1], .agg #[.int .i64 a1_0, .slice A1_1 l1_1.length c1_1], .int .i64 a2] w fun e w' => ∃ v1_ : Value, e = .returned (.tuple #[.agg #[.int .i64 r1, v1_], .int .i64 r3]) ∧ Kd.R (Kd.int .i64) 2 w' w.heap.size (fun _ => True) v1_ r2 ∧ Below w.heap.size w w' := by
 have hu24 := Try.underlying24
 have HR0_1 := Aside0.mk hr0_1
 have HC0_1 := Aside0.mk hc0_1
 clear hr0_1 hc0_1
 have HR1_1 := Aside0.mk hr1_1
 have HC1_1 := Aside0.mk hc1_1
 clear hr1_1 hc1_1
 have HB := Aside0.mk (Below.refl w.heap.size w)
 have H := h
 unfold spec_AddRings.f at H
 clear h
 replace H := Option.bind_eq_some_iff.mp H
 obtain ⟨t176, A40, H⟩ := H
 try dsimp only at H
 have A4 := Aside0.mk A40
 clear A40
 have HC5 := Aside0.mk H
 clear H
 go_enter Try.func25, Try.ntmps25
 go_upto_region 2 with (first | ((with_reducible refine gate_dst (N := 3) rfl ?_); refine bx 3 #[.int .i64 a0_0, .slice A0_1 l0_1.length c0_1] 24 (fun gb173 hg w6 hbox hb => ?_); have BK173 := Aside0.mk hbox; have GW173 := ge HB hg; have GE173 := GW173; replace HB := hs HB hb; clear hb hbox hg) | ((with_reducible refine gate_dst (N := 4) rfl ?_); refine bx 4 #[.int .i64 a1_0, .slice A1_1 l1_1.length c1_1] 24 (fun gb174 hg w7 hbox hb => ?_); have BK174 := Aside0.mk hbox; have GW174 := ge HB hg; have GE174 := GW174; obtain ⟨NB173_174, NB174_173⟩ := nb BK173 hg; replace BK173 := bb BK173 hb; replace HB := hs HB hb; clear hb hbox hg) | ((with_reducible refine gate_dst (N := 6) rfl ?_); refine bx 6 #[.int .i64 0, .slice none 0 0] 24 (fun gb175 hg w8 hbox hb => ?_); have BK175 := Aside0.mk hbox; have GW175 := ge HB hg; have GE175 := GW175; obtain ⟨NB173_175, NB175_173⟩ := nb BK173 hg; obtain ⟨NB174_175, NB175_174⟩ := nb BK174 hg; replace BK173 := bb BK173 hb; replace BK174 := bb BK174 hb; replace HB := hs HB hb; clear hb hbox hg; have hnb9 := NB173_174.out; have hnc9 := NB174_173.out; have hnb10 := NB173_175.out; have hnc10 := NB175_173.out; have hcz11_0 : w8.cell? ⟨gb173, 0, none⟩ = some (.int .i64 a0_0) := (blk_cell BK173.out 0).trans rfl; have hcz11_1 : w8.cell? ⟨gb173, 1, none⟩ = some (.slice A0_1 l0_1.length c0_1) := (blk_cell BK173.out 1).trans rfl; have hfz11_0 := blk_frozen BK173.out 0; have hfz11_1 := blk_frozen BK173.out 1; have hnb12 := NB174_175.out; have hnc12 := NB175_174.out; have hcz13_0 : w8.cell? ⟨gb174, 0, none⟩ = some (.int .i64 a1_0) := (blk_cell BK174.out 0).trans rfl; have hcz13_1 : w8.cell? ⟨gb174, 1, none⟩ = some (.slice A1_1 l1_1.length c1_1) := (blk_cell BK174.out 1).trans rfl; have hfz13_0 := blk_frozen BK174.out 0; have hfz13_1 := blk_frozen BK174.out 1) | ((with_reducible refine gate_callee (f := 74) rfl ?_); refine gl (some 15) Try.func74 #[.agg #[.int .i64 a0_0, .slice A0_1 l0_1.length c0_1], .agg #[.int .i64 a1_0, .slice A1_1 l1_1.length c1_1]] ?_; (with_reducible refine (spec_l10Like.calls k a0_0 _ _ l0_1 a1_0 _ _ l1_1 t176 _ ?side1 ?side2 ?side3 ?side4 A4.out).mono ?_); (case side1 => repeat (first | exact (Kd.C_below HR0_1.out HB.out) | (with_reducible refine Kd.C_alloc ?_ _) | (with_reducible refine Kd.C_drewN ?_ _) | (with_reducible refine Kd.C_drew ?_))); (case side2 => exact HC0_1.out); (case side3 => repeat (first | exact (Kd.C_below HR1_1.out HB.out) | (with_reducible refine Kd.C_alloc ?_ _) | (with_reducible refine Kd.C_drewN ?_ _) | (with_reducible refine Kd.C_drew ?_))); (case side4 => exact HC1_1.out); rintro e w14 ⟨rfl, hb⟩; refine ⟨_, rfl, ?_⟩; replace BK173 := bb BK173 hb; replace BK174 := bb BK174 hb; replace BK175 := bb BK175 hb; replace HB := hs HB hb; (try clear hb)))
 (try simp only [Act.put, List.setIfInBounds_toArray, List.set_cons_zero, List.set_cons_succ])
 go_cut [22] (fun v22 wc => ∃ (kq : Nat) (x22_4 : Bool), v22 = .bool x22_4 ∧ Aside0 (spec_AddRings.j0 kq a2 t176 x22_4 a0_0 l0_1 a1_0 l1_1 = some (r1, r2, r3)) ∧ Aside0 (kq ≤ k) ∧ Aside0 (wc.heap[gb173]? = some (.cells #[.int .i64 a0_0, (.slice A0_1 l0_1.length c0_1)] 24 (0, 0))) ∧ Aside0 (wc.heap[gb174]? = some (.cells #[.int .i64 a1_0, (.slice A1_1 l1_1.length c1_1)] 24 (0, 0))) ∧ Aside0 (wc.heap[gb175]? = some (.cells #[.int .i64 0, (.slice none 0 0)] 24 (0, 0))) ∧ Aside0 (Below w.heap.size w wc))
 case first =>
  have H := HC5.out
  clear HC5
  by_cases c15 : t176 = 0
  ·rw [if_pos c15] at H
   have c15b0 : (t176 == 0) = true := beq_iff_eq.mpr c15
   have c15b1 : (t176 != 0) = false := bne_eq_false_iff_eq.mpr c15
   clear c15
   (first | rw [c15b0] | (simp only [i64_w, i32_w]; rw [c15b0]) | skip)
   replace H := Option.bind_eq_some_iff.mp H
   obtain ⟨t177, A160, H⟩ := H
   try dsimp only at H
   have A16 := Aside0.mk A160
   clear A160
   have H' := Aside0.mk H
   clear H
   go_wp2_with (first | (go_at_call 53; (with_reducible refine (spec_l01In.calls a2 (-1000) 1000 t177 _ A16.out).mono ?_); rintro e w' ⟨rfl, ⟨nd, rfl⟩⟩))
   go_meet
   case rel => exact ⟨_, (!t177), (by first | rfl | (simp; done) | (simp [*]; done)), H', ⟨by first | omega | exact Nat.le_refl _⟩, ⟨pk BK173.out⟩, ⟨pk BK174.out⟩, ⟨pk BK175.out⟩, ⟨bks HB.out⟩⟩
  ·rw [if_neg c15] at H
   have c15b0 : (t176 == 0) = false := beq_eq_false_iff_ne.mpr c15
   have c15b1 : (t176 != 0) = true := bne_iff_ne.mpr c15
   (first | rw [c15b0] | (simp only [i64_w, i32_w]; rw [c15b0]) | skip)
   have H' := Aside0.mk H
   clear H
   go_wp2
   go_meet
   case rel => exact ⟨_, (false), (by first | rfl | (simp; done) | (simp [*]; done)), H', ⟨by first | omega | exact Nat.le_refl _⟩, ⟨pk BK173.out⟩, ⟨pk BK174.out⟩, ⟨pk BK175.out⟩, ⟨bks HB.out⟩⟩
 case rest =>
  clear HC5
  try clear c1; try clear c2; try clear p2; try clear c7; try clear c9; try clear c10; try clear c12; try clear c15; try clear c15b0; try clear c15b1; try clear hcz11_0; try clear hcz11_1; try clear hcz13_0; try clear hcz13_1; try clear hfz11_0; try clear hfz11_1; try clear hfz13_0; try clear hfz13_1
  obtain ⟨kq, x22_4, rfl, HA, HJ4, BK173, BK174, BK175, HB⟩ := hcut
  cases kq with
  | zero => exact absurd HA.out (by simp [spec_AddRings.j0])
  | succ kj4 =>
   have H := HA.out
   clear HA
   simp only [spec_AddRings.j0] at H
   have HC17 := Aside0.mk H
   clear H
   go_upto_if 22 with (fail)
   go_cut [8] (fun v8 wc => ∃ (kq : Nat) (x8_16 : Int), v8 = .int .i64 x8_16 ∧ Aside0 (spec_AddRings.j1 kq a2 x8_16 a0_0 l0_1 a1_0 l1_1 = some (r1, r2, r3)) ∧ Aside0 (kq ≤ kj4) ∧ Aside0 (wc.heap[gb173]? = some (.cells #[.int .i64 a0_0, (.slice A0_1 l0_1.length c0_1)] 24 (0, 0))) ∧ Aside0 (wc.heap[gb174]? = some (.cells #[.int .i64 a1_0, (.slice A1_1 l1_1.length c1_1)] 24 (0, 0))) ∧ Aside0 (wc.heap[gb175]? = some (.cells #[.int .i64 0, (.slice none 0 0)] 24 (0, 0))) ∧ Aside0 (Below w.heap.size w wc))
   case first =>
    have H := HC17.out
    clear HC17
    by_cases c18 : x22_4 = true
    ·subst c18
     have H1 : (spec_AddRings.j1 kj4 a2 2 a0_0 l0_1 a1_0 l1_1) = some (r1, r2, r3) := by rw [if_pos rfl] at H; exact H
     clear H
     have H := H1
     clear H1
     have H' := Aside0.mk H
     clear H
     go_wp2
     go_meet
     case rel => exact ⟨_, (2), (by first | rfl | (simp; done) | (simp [*]; done)), H', ⟨by have := HJ4.out; first | omega | exact Nat.le_refl _⟩, ⟨pk BK173.out⟩, ⟨pk BK174.out⟩, ⟨pk BK175.out⟩, ⟨bks HB.out⟩⟩
    ·replace c18 := Bool.eq_false_iff.mpr c18
     subst c18
     have H1 : (spec_AddRings.j1 kj4 a2 t176 a0_0 l0_1 a1_0 l1_1) = some (r1, r2, r3) := by rw [if_neg (show ¬ (false = true) by decide)] at H; exact H
     clear H
     have H := H1
     clear H1
     have H' := Aside0.mk H
     clear H
     go_wp2
     go_meet
     case rel => exact ⟨_, (t176), (by first | rfl | (simp; done) | (simp [*]; done)), H', ⟨by have := HJ4.out; first | omega | exact Nat.le_refl _⟩, ⟨pk BK173.out⟩, ⟨pk BK174.out⟩, ⟨pk BK175.out⟩, ⟨bks HB.out⟩⟩
   case rest =>
    clear HC17
    try clear c1; try clear c2; try clear p2; try clear c7; try clear c9; try clear c10; try clear c12; try clear c15; try clear c15b0; try clear c15b1; try clear c18; try clear hcz11_0; try clear hcz11_1; try clear hcz13_0; try clear hcz13_1; try clear hfz11_0; try clear hfz11_1; try clear hfz13_0; try clear hfz13_1; try clear p2
    obtain ⟨kq, x8_16, rfl, HA, HJ16, BK173, BK174, BK175, HB⟩ := hcut
    cases kq with
    | zero => exact absurd HA.out (by simp [spec_AddRings.j1])
    | succ kj16 =>
     have H := HA.out
     clear HA
     simp only [spec_AddRings.j1] at H
     by_cases c19 : x8_16 = 0
     ·rw [if_pos c19] at H
      have c19b0 : (x8_16 == 0) = true := beq_iff_eq.mpr c19
      have c19b1 : (x8_16 != 0) = false := bne_eq_false_iff_eq.mpr c19
      clear c19
      replace H := Option.bind_eq_some_iff.mp H
      obtain ⟨⟨t178, t179⟩, A200, H⟩ := H
      try dsimp only at H
      have A20 := Aside0.mk A200
      clear A200
      have H' := Aside0.mk H
      clear H
      have hnb21 := NB173_174.out
      have hnc21 := NB174_173.out
      have hnb22 := NB173_175.out
      have hnc22 := NB175_173.out
      have hcz23_0 : wc.cell? ⟨gb173, 0, none⟩ = some (.int .i64 a0_0) := (blk_cell BK173.out 0).trans rfl
      have hcz23_1 : wc.cell? ⟨gb173, 1, none⟩ = some (.slice A0_1 l0_1.length c0_1) := (blk_cell BK173.out 1).trans rfl
      have hfz23_0 := blk_frozen BK173.out 0
      have hfz23_1 := blk_frozen BK173.out 1
      go_wp2_with (first | ((with_reducible refine gate_callee (f := 55) rfl ?_); refine gl (some 29) Try.func55 #[.int .i64 a0_0] ?_; (with_reducible refine (spec_l10Zero.calls kj16 a0_0 t178 t179 _ A20.out).mono ?_); rintro e w24 ⟨v180, rfl, ho0, hb⟩; refine ⟨_, rfl, ?_⟩; have HO181 := Aside0.mk (Kd.R_lower ho0 (below_size (bks HB.out))); replace BK173 := bb BK173 hb; replace BK174 := bb BK174 hb; replace BK175 := bb BK175 hb; replace HB := hs HB hb; (try clear hb ho0)) | ((with_reducible refine gate_dst (N := 9) rfl ?_); refine bx 9 #[.int .i64 0, .slice none 0 0] 24 (fun gb182 hg w25 hbox hb => ?_); have BK182 := Aside0.mk hbox; have GW182 := ge HB hg; have GE182 := GW182; obtain ⟨NB173_182, NB182_173⟩ := nb BK173 hg; obtain ⟨NB174_182, NB182_174⟩ := nb BK174 hg; obtain ⟨NB175_182, NB182_175⟩ := nb BK175 hg; replace HO181 := rb HO181 hb; replace BK173 := bb BK173 hb; replace BK174 := bb BK174 hb; replace BK175 := bb BK175 hb; replace HB := hs HB hb; clear hb hbox hg; have hnb26 := NB182_173.out; have hnc26 := NB173_182.out; have hnb27 := NB182_174.out; have hnc27 := NB174_182.out; have hnb28 := NB182_175.out; have hnc28 := NB175_182.out; have hcz29_0 : w25.cell? ⟨gb182, 0, none⟩ = some (.int .i64 0) := (blk_cell BK182.out 0).trans rfl; have hcz29_1 : w25.cell? ⟨gb182, 1, none⟩ = some (.slice none 0 0) := (blk_cell BK182.out 1).trans rfl; have hfz29_0 := blk_frozen BK182.out 0; have hfz29_1 := blk_frozen BK182.out 1; obtain ⟨Ao30, co30, eo30⟩ := Kd.R_slice HO181.out; subst eo30))
      go_loopg [10] kj16 (fun kq v10 w' => ∃ (x10_3 : Int) (x183001_3 : List Int) (u183001 : Value), v10 = .int .i64 x10_3 ∧ Aside0 (spec_AddRings.l0 kq a2 x10_3 a0_0 l0_1 a1_0 l1_1 t178 x183001_3 = some (r1, r2, r3)) ∧ Aside0 (kq ≤ kj16) ∧ Aside0 (Kd.R (Kd.int .i64) 2 w' w.heap.size (fun _ => True) u183001 x183001_3) ∧ Aside0 (w'.heap[gb173]? = some (.cells #[.int .i64 a0_0, (.slice A0_1 l0_1.length c0_1)] 24 (0, 0))) ∧ Aside0 (w'.heap[gb174]? = some (.cells #[.int .i64 a1_0, (.slice A1_1 l1_1.length c1_1)] 24 (0, 0))) ∧ Aside0 (w'.heap[gb175]? = some (.cells #[.int .i64 0, (.slice none 0 0)] 24 (0, 0))) ∧ Aside0 (w'.heap[gb182]? = some (.cells #[.int .i64 t178, u183001] 24 (0, 0))) ∧ Aside0 (Below w.heap.size w w'))
      case atStart => exact ⟨(0), (t179), (.slice Ao30 t179.length co30), (by first | rfl | (simp; done) | (simp [*]; done)), H', ⟨Nat.le_refl _⟩, ⟨rxm HO181 (fun _ _ => trivial)⟩, ⟨bf BK173⟩, ⟨bf BK174⟩, ⟨bf BK175⟩, ⟨by (with_reducible repeat (first | refine blk_drewN ?_ _ | refine blk_drew ?_ | refine blk_alloc ?_ _)); refine blk_put (cs := #[.int .i64 t178, .slice none 0 0]) ?_ 1 _ rfl; (with_reducible repeat (first | refine blk_drewN ?_ _ | refine blk_drew ?_ | refine blk_alloc ?_ _)); refine blk_put (cs := #[.int .i64 0, .slice none 0 0]) ?_ 0 _ rfl; (with_reducible repeat (first | refine blk_drewN ?_ _ | refine blk_drew ?_ | refine blk_alloc ?_ _)); exact BK182.out⟩, ⟨bks HB.out⟩⟩
      case round =>
       clear H'
       try clear c1; try clear c2; try clear p2; try clear c5; try clear c7; try clear c9; try clear c10; try clear c12; try clear c15; try clear c15b0; try clear c15b1; try clear c18; try clear c19; try clear c19b0; try clear c19b1; try clear c21; try clear c22; try clear c25; try clear c26; try clear c27; try clear c28; try clear hcz11_0; try clear hcz11_1; try clear hcz13_0; try clear hcz13_1; try clear hcz23_0; try clear hcz23_1; try clear hcz29_0; try clear hcz29_1; try clear hfz11_0; try clear hfz11_1; try clear hfz13_0; try clear hfz13_1; try clear hfz23_0; try clear hfz23_1; try clear hfz29_0; try clear hfz29_1; try clear p2
       obtain ⟨x10_3, x183001_3, u183001, rfl, HA, HK3, HO_183001, BK173, BK174, BK175, BK182, HB⟩ := hrel
       cases gk with
       | zero => exact absurd HA.out (by simp [spec_AddRings.l0])
       | succ k3 =>
        have H := HA.out
        clear HA
        simp only [spec_AddRings.l0] at H
        by_cases c31 : x10_3 < (x183001_3.length : Int)
        ·rw [if_pos c31] at H
         have c31b0 : decide (x10_3 < (x183001_3.length : Int)) = true := decide_eq_true c31
         clear c31
         by_cases c32 : 0 ≤ x10_3
         rotate_left
         ·rw [if_neg c32] at H; exact absurd H (by simp)
         rw [if_pos c32] at H
         have c32b0 : decide (0 ≤ x10_3) = true := decide_eq_true c32
         clear c32
         by_cases c33 : x10_3 < (l0_1.length : Int)
         rotate_left
         ·rw [if_neg c33] at H; exact absurd H (by simp)
         rw [if_pos c33] at H
         have c33b0 : decide (x10_3 < (l0_1.length : Int)) = true := decide_eq_true c33
         clear c33
         by_cases c34 : x10_3 < (l1_1.length : Int)
         rotate_left
         ·rw [if_neg c34] at H; exact absurd H (by simp)
         rw [if_pos c34] at H
         have c34b0 : decide (x10_3 < (l1_1.length : Int)) = true := decide_eq_true c34
         clear c34
         obtain ⟨y185, hy185⟩ : ∃ y_ : List Int, y_ = (x183001_3.set (x10_3 : Int).toNat (wrap64 ((rd l0_1 x10_3) + (wrap64 (a2 * (rd l1_1 x10_3)))))) := ⟨_, rfl⟩
         replace H : (spec_AddRings.l0 k3 a2 (wrap64 (x10_3 + 1)) a0_0 l0_1 a1_0 l1_1 t178 y185) = some (r1, r2, r3) := by first | (rw [hy185]; with_reducible exact H) | (have H2_ := (Option.bind_some _ _).symm.trans H; rw [hy185]; with_reducible exact H2_) | (have H2_ := (Option.bind_some _ _).symm.trans H; with_reducible exact H2_) | with_reducible exact H | (rw [hy185]; exact H) | exact H
         have Ny185 := Aside0.mk hy185
         clear hy185
         have H' := Aside0.mk H
         clear H
         have hnb36 := NB182_173.out
         have hnc36 := NB173_182.out
         have hnb37 := NB182_174.out
         have hnc37 := NB174_182.out
         have hnb38 := NB182_175.out
         have hnc38 := NB175_182.out
         have hcz39_0 : wr.cell? ⟨gb182, 0, none⟩ = some (.int .i64 t178) := (blk_cell BK182.out 0).trans rfl
         have hcz39_1 : wr.cell? ⟨gb182, 1, none⟩ = some (u183001) := (blk_cell BK182.out 1).trans rfl
         have hfz39_0 := blk_frozen BK182.out 0
         have hfz39_1 := blk_frozen BK182.out 1
         obtain ⟨Ao40, co40, eo40⟩ := Kd.R_slice HO_183001.out
         subst eo40
         try go_wp2
         replace HO_183001 := rd0 HO_183001
         replace BK173 := bd BK173
         replace BK174 := bd BK174
         replace BK175 := bd BK175
         replace BK182 := bd BK182
         replace HB := hd0 HB
         have p183 : 0 ≤ (x10_3 : Int) := of_decide_eq_true (by first | (with_reducible assumption) | assumption)
         have q183 : x10_3 < (l0_1.length : Int) := of_decide_eq_true (by first | (with_reducible assumption) | assumption)
         obtain ⟨ad183, e183, hx183_0⟩ := Kd.at_int HR0_1.out x10_3 p183 q183
         have hw183_0 := hx183_0
         cases e183
         replace hx183_0 := (HB.out.cell (World.block_lt_of_cell? w _ hx183_0)).trans hx183_0
         replace p183 := eq_true p183
         replace q183 := eq_true q183
         have p184 : 0 ≤ (x10_3 : Int) := of_decide_eq_true (by first | (with_reducible assumption) | assumption)
         have q184 : x10_3 < (l1_1.length : Int) := of_decide_eq_true (by first | (with_reducible assumption) | assumption)
         obtain ⟨ad184, e184, hx184_0⟩ := Kd.at_int HR1_1.out x10_3 p184 q184
         have hw184_0 := hx184_0
         cases e184
         replace hx184_0 := (HB.out.cell (World.block_lt_of_cell? w _ hx184_0)).trans hx184_0
         replace p184 := eq_true p184
         replace q184 := eq_true q184
         have p35 : 0 ≤ (x10_3 : Int) := of_decide_eq_true (by first | (with_reducible assumption) | assumption)
         have q35 : (x10_3 : Int) < ((x183001_3.length : Int) : Int) := of_decide_eq_true (by first | (with_reducible assumption) | assumption)
         obtain ⟨go35, co35, eo35, gb35, gl35, cl35, HG35⟩ := Kd.R_form HO_183001.out (by omega)
         (first | cases eo35 | (injection eo35 with ea_ en_ ec_; (first | subst ea_ | (injection ea_ with ea_; subst ea_)); subst ec_; clear en_))
         have GB35 := Aside0.mk gb35
         have GG35 := Aside0.mk HG35
         clear gb35 gl35 HG35
         obtain ⟨hx35_0, hf35_0⟩ := Kd.R_celln 0 HO_183001.out (x10_3 : Int) p35 q35
         replace p35 := eq_true p35
         replace q35 := eq_true q35
         have HP42 := Kd.R_putn HO_183001.out (x10_3 : Int) (wrap64 ((rd l0_1 x10_3) + (wrap64 (a2 * (rd l1_1 x10_3)))))
         rw [← Ny185.out] at HP42
         have HQ42 := Aside0.mk HP42
         clear HP42
         refine start_ (n := 18) (S := fun w' => w'.cell? ⟨gb182, 0, none⟩ = some (.int .i64 t178) ∧ w'.cell? ⟨gb182, 1, none⟩ = some (.slice (some ⟨go35, 0, none⟩) x183001_3.length co40) ∧ w'.cell? ⟨gb173, 0, none⟩ = some (.int .i64 a0_0) ∧ w'.cell? ⟨gb173, 1, none⟩ = some (.slice (some ad183) l0_1.length c0_1) ∧ w'.cell? ⟨gb174, 0, none⟩ = some (.int .i64 a1_0) ∧ w'.cell? ⟨gb174, 1, none⟩ = some (.slice (some ad184) l1_1.length c1_1) ∧ w'.cell? (ad183.add (x10_3).toNat) = some (.int .i64 (rd l0_1 x10_3)) ∧ w'.cell? (ad184.add (x10_3).toNat) = some (.int .i64 (rd l1_1 x10_3))) (ds := [17]) #[false, false, false, false, false, false, false, false, false, false, false, false, false, false, false, false, false, false] (by kernel_rfl) rfl rfl ⟨(blk_cell BK182.out 0).trans rfl, (blk_cell BK182.out 1).trans rfl, (blk_cell BK173.out 0).trans rfl, (blk_cell BK173.out 1).trans rfl, (blk_cell BK174.out 0).trans rfl, (blk_cell BK174.out 1).trans rfl, ((HB.out.cell (World.block_lt_of_cell? w _ hw183_0)).trans hw183_0), ((HB.out.cell (World.block_lt_of_cell? w _ hw184_0)).trans hw184_0)⟩ (fun hHeld => ?_); refine with_tabW spec_AddRings.tab10 spec_AddRings.bits10 (fun HT_ HW_ => ?_)
         generalize wr.drew = w41 at HO_183001 BK173 BK174 BK175 BK182 HB GG35 HQ42 hf35_0 hx183_0 hx184_0 hx35_0 hHeld ⊢
         refine pu 0 (some 37) HT_ ?_
         refine pu 2 (some 39) HT_ ?_
         refine pu 3 (some 40) HT_ ?_
         refine pu 5 (some 42) HT_ ?_
         refine pu 8 (some 45) HT_ ?_
         refine pu 9 (some 46) HT_ ?_
         refine pu 11 (some 48) HT_ ?_
         refine tk 1 (some 38) HT_ HW_ hHeld ?_ (hy := by rintro w' ⟨s0, s1, s2, s3, s4, s5, s6, s7⟩; go_simp; with_reducible rfl)
         refine tk 4 (some 41) HT_ HW_ hHeld ?_ (hy := by rintro w' ⟨s0, s1, s2, s3, s4, s5, s6, s7⟩; go_simp; with_reducible rfl)
         refine pu 6 (some 43) HT_ ?_
         refine tk 7 (some 44) HT_ HW_ hHeld ?_ (hy := by rintro w' ⟨s0, s1, s2, s3, s4, s5, s6, s7⟩; go_simp; with_reducible rfl)
         refine tk 10 (some 47) HT_ HW_ hHeld ?_ (hy := by rintro w' ⟨s0, s1, s2, s3, s4, s5, s6, s7⟩; go_simp; with_reducible rfl)
         refine pu 12 (some 49) HT_ ?_
         refine tk 13 (some 50) HT_ HW_ hHeld ?_ (hy := by rintro w' ⟨s0, s1, s2, s3, s4, s5, s6, s7⟩; go_simp; with_reducible rfl)
         refine pu 14 (some 51) HT_ ?_
         refine pu 15 (some 52) HT_ ?_
         refine pu 16 (some 53) HT_ ?_
         refine la 17 none HT_ (fun K hK => ?_)
         refine skip_ (w1 := ?_) (by rfl) rfl ?_ ?_
         rotate_left
         ·go_simp
          rfl
         refine hK.out _ _ ?_
         clear hK K
         refine done_ (done_of HT_.out (by kernel_rfl)) ?_
         try go_wp2
         go_roundg k3
         case measure => have := HJ4.out; have := HJ16.out; have := HK3.out; omega
         case rel => exact ⟨(wrap64 (x10_3 + 1)), (y185), (.slice (some ⟨go35, 0, none⟩) x183001_3.length co40), (by first | rfl | (simp; done) | (simp [*]; done)), H', ⟨by have := HJ4.out; have := HJ16.out; have := HK3.out; omega⟩, ⟨by (with_reducible repeat (first | apply Kd.R_alloc | apply Kd.R_drewN | apply Kd.R_drew)); exact HQ42.out⟩, ⟨by (with_reducible repeat (first | refine blk_drewN ?_ _ | refine blk_drew ?_ | refine blk_alloc ?_ _)); refine blk_far ?_ (by have h_ := Kd.R_ne HO_183001.out BK173.out (by decide); intro e_; exact h_ (by rw [e_]; rfl)) _; (with_reducible repeat (first | refine blk_drewN ?_ _ | refine blk_drew ?_ | refine blk_alloc ?_ _)); exact BK173.out⟩, ⟨by (with_reducible repeat (first | refine blk_drewN ?_ _ | refine blk_drew ?_ | refine blk_alloc ?_ _)); refine blk_far ?_ (by have h_ := Kd.R_ne HO_183001.out BK174.out (by decide); intro e_; exact h_ (by rw [e_]; rfl)) _; (with_reducible repeat (first | refine blk_drewN ?_ _ | refine blk_drew ?_ | refine blk_alloc ?_ _)); exact BK174.out⟩, ⟨by (with_reducible repeat (first | refine blk_drewN ?_ _ | refine blk_drew ?_ | refine blk_alloc ?_ _)); refine blk_far ?_ (by have h_ := Kd.R_ne HO_183001.out BK175.out (by decide); intro e_; exact h_ (by rw [e_]; rfl)) _; (with_reducible repeat (first | refine blk_drewN ?_ _ | refine blk_drew ?_ | refine blk_alloc ?_ _)); exact BK175.out⟩, ⟨by (with_reducible repeat (first | refine blk_drewN ?_ _ | refine blk_drew ?_ | refine blk_alloc ?_ _)); refine blk_far ?_ (by have h_ := Kd.R_ne HO_183001.out BK182.out (by decide); intro e_; exact h_ (by rw [e_]; rfl)) _; (with_reducible repeat (first | refine blk_drewN ?_ _ | refine blk_drew ?_ | refine blk_alloc ?_ _)); exact BK182.out⟩, ⟨by repeat (first | (with_reducible first | exact HB.out | apply below_alloc | apply pw_below_drewN | apply below_drew1 | refine below_set ?_ GB35.out | refine below_set ?_ GE173.out | refine below_set ?_ GE174.out | refine below_set ?_ GE175.out | refine below_set ?_ GE182.out) | exact HB.out)⟩⟩
        ·rw [if_neg c31] at H
         have c31b0 : decide (x10_3 < (x183001_3.length : Int)) = false := decide_eq_false c31
         clear c31
         replace H := Option.bind_eq_some_iff.mp H
         obtain ⟨⟨t186, t187, t190⟩, A430, H⟩ := H
         try dsimp only at H
         have A43 := Aside0.mk A430
         clear A430
         simp only [Option.some.injEq, Prod.mk.injEq] at H
         obtain ⟨rfl, rfl, rfl⟩ := H
         have hnb44 := NB182_173.out
         have hnc44 := NB173_182.out
         have hnb45 := NB182_174.out
         have hnc45 := NB174_182.out
         have hnb46 := NB182_175.out
         have hnc46 := NB175_182.out
         have hcz47_0 : wr.cell? ⟨gb182, 0, none⟩ = some (.int .i64 t178) := (blk_cell BK182.out 0).trans rfl
         have hcz47_1 : wr.cell? ⟨gb182, 1, none⟩ = some (u183001) := (blk_cell BK182.out 1).trans rfl
         have hfz47_0 := blk_frozen BK182.out 0
         have hfz47_1 := blk_frozen BK182.out 1
         obtain ⟨Ao48, co48, eo48⟩ := Kd.R_slice HO_183001.out
         subst eo48
         go_wp2_with (first | ((with_reducible refine gate_callee (f := 75) rfl ?_); refine gl (some 56) Try.func75 #[.agg #[.int .i64 t178, .slice Ao48 x183001_3.length co48]] ?_; (with_reducible refine (spec_l10Told.calls k3 t178 (fun k_ => some k_ = (.slice Ao48 x183001_3.length co48 : Value).ownBlock) (.slice Ao48 x183001_3.length co48) x183001_3 t186 t187 t190 w _ ?side1 ?side2 A43.out).mono ?_); (case side1 => repeat (first | (with_reducible first | exact HB.out | apply below_alloc | apply pw_below_drewN | apply below_drew1 | refine below_set ?_ GE173.out | refine below_set ?_ GE174.out | refine below_set ?_ GE175.out | refine below_set ?_ GE182.out) | exact HB.out)); (case side2 => exact Kd.R_tight rfl HO_183001.out); rintro e w49 ⟨v188, rfl, ho0, hb, hkp⟩; refine ⟨_, rfl, ?_⟩; have HO189 := Aside0.mk (Kd.R_mono (ok' := fun k_ => True) ho0 (fun k_ hk_ => trivial)); replace BK173 := Aside0.mk (blk_kept (pk BK173.out) hkp (fun hs_ => (fun e_ => (Kd.R_ne HO_183001.out BK173.out (by decide)) e_) hs_)); replace BK174 := Aside0.mk (blk_kept (pk BK174.out) hkp (fun hs_ => (fun e_ => (Kd.R_ne HO_183001.out BK174.out (by decide)) e_) hs_)); replace BK175 := Aside0.mk (blk_kept (pk BK175.out) hkp (fun hs_ => (fun e_ => (Kd.R_ne HO_183001.out BK175.out (by decide)) e_) hs_)); replace BK182 := Aside0.mk (blk_kept (pk BK182.out) hkp (fun hs_ => (fun e_ => (Kd.R_ne HO_183001.out BK182.out (by decide)) e_) hs_)); replace HB := Aside0.mk hb; clear HO_183001; (try clear hb hkp ho0)) | ((with_reducible refine gate_dst (N := 11) rfl ?_); refine bx 11 #[.int .i64 0, .slice none 0 0] 24 (fun gb191 hg w50 hbox hb => ?_); have BK191 := Aside0.mk hbox; have GW191 := ge HB hg; have GE191 := GW191; obtain ⟨NB173_191, NB191_173⟩ := nb BK173 hg; obtain ⟨NB174_191, NB191_174⟩ := nb BK174 hg; obtain ⟨NB175_191, NB191_175⟩ := nb BK175 hg; obtain ⟨NB182_191, NB191_182⟩ := nb BK182 hg; replace HO189 := rb HO189 hb; replace BK173 := bb BK173 hb; replace BK174 := bb BK174 hb; replace BK175 := bb BK175 hb; replace BK182 := bb BK182 hb; replace HB := hs HB hb; clear hb hbox hg; have hnb51 := NB191_173.out; have hnc51 := NB173_191.out; have hnb52 := NB191_174.out; have hnc52 := NB174_191.out; have hnb53 := NB191_175.out; have hnc53 := NB175_191.out; have hnb54 := NB191_182.out; have hnc54 := NB182_191.out; have hcz55_0 : w50.cell? ⟨gb191, 0, none⟩ = some (.int .i64 0) := (blk_cell BK191.out 0).trans rfl; have hcz55_1 : w50.cell? ⟨gb191, 1, none⟩ = some (.slice none 0 0) := (blk_cell BK191.out 1).trans rfl; have hfz55_0 := blk_frozen BK191.out 0; have hfz55_1 := blk_frozen BK191.out 1; obtain ⟨Ao56, co56, eo56⟩ := Kd.R_slice HO189.out; subst eo56; have hnb57 := NB175_173.out; have hnc57 := NB173_175.out; have hnb58 := NB175_174.out; have hnc58 := NB174_175.out; have hcz59_0 : w50.cell? ⟨gb175, 0, none⟩ = some (.int .i64 0) := (blk_cell BK175.out 0).trans rfl; have hcz59_1 : w50.cell? ⟨gb175, 1, none⟩ = some (.slice none 0 0) := (blk_cell BK175.out 1).trans rfl; have hfz59_0 := blk_frozen BK175.out 0; have hfz59_1 := blk_frozen BK175.out 1))
         refine bodyPost_ret (results_ct rfl _ _ gb175 24 #[.int .i64 t186, .slice Ao56 t187.length co56] (0, 0) _ rfl (by (with_reducible repeat (first | refine blk_drewN ?_ _ | refine blk_drew ?_ | refine blk_alloc ?_ _)); refine blk_put (cs := #[.int .i64 t186, .slice none 0 0]) ?_ 1 _ rfl; (with_reducible repeat (first | refine blk_drewN ?_ _ | refine blk_drew ?_ | refine blk_alloc ?_ _)); refine blk_put (cs := #[.int .i64 0, .slice none 0 0]) ?_ 0 _ rfl; (with_reducible repeat (first | refine blk_drewN ?_ _ | refine blk_drew ?_ | refine blk_alloc ?_ _)); refine blk_far ?_ NB175_191.out _; (with_reducible repeat (first | refine blk_drewN ?_ _ | refine blk_drew ?_ | refine blk_alloc ?_ _)); refine blk_far ?_ NB175_191.out _; (with_reducible repeat (first | refine blk_drewN ?_ _ | refine blk_drew ?_ | refine blk_alloc ?_ _)); exact BK175.out) Try.underlying24 rfl (by kernel_rfl)) rfl ?_
         exact ⟨_, by first | rfl | (simp [errW_none, errW_some] <;> rfl) | (simp [*, errW_none, errW_some] <;> rfl), by (with_reducible repeat (first | apply Kd.R_alloc | apply Kd.R_drewN | apply Kd.R_drew)); exact Kd.R_mono (Kd.R_far (p := ⟨gb175, 1, none⟩) (Kd.R_far (p := ⟨gb175, 0, none⟩) (Kd.R_far (p := ⟨gb191, 1, none⟩) (Kd.R_far (p := ⟨gb191, 0, none⟩) (Kd.R_types (Kd.R_types HO189.out BK191.out (by decide)) BK175.out (by decide)) (fun _ hk => hk.1.2) (.int .i64 t186)) (fun _ hk => hk.1.2) (.slice Ao56 t187.length co56)) (fun _ hk => hk.2) (.int .i64 t186)) (fun _ hk => hk.2) (.slice Ao56 t187.length co56)) (fun _ hk => trivial), bks HB.out⟩
     ·rw [if_neg c19] at H
      have c19b0 : (x8_16 == 0) = false := beq_eq_false_iff_ne.mpr c19
      have c19b1 : (x8_16 != 0) = true := bne_iff_ne.mpr c19
      simp only [Option.some.injEq, Prod.mk.injEq] at H
      obtain ⟨rfl, rfl, rfl⟩ := H
      have hnb60 := NB175_173.out
      have hnc60 := NB173_175.out
      have hnb61 := NB175_174.out
      have hnc61 := NB174_175.out
      have hcz62_0 : wc.cell? ⟨gb175, 0, none⟩ = some (.int .i64 0) := (blk_cell BK175.out 0).trans rfl
      have hcz62_1 : wc.cell? ⟨gb175, 1, none⟩ = some (.slice none 0 0) := (blk_cell BK175.out 1).trans rfl
      have hfz62_0 := blk_frozen BK175.out 0
      have hfz62_1 := blk_frozen BK175.out 1
      go_wp2
      refine bodyPost_ret (results_ct rfl _ _ gb175 24 #[.int .i64 0, .slice none 0 0] (0, 0) _ rfl (by (with_reducible repeat (first | refine blk_drewN ?_ _ | refine blk_drew ?_ | refine blk_alloc ?_ _)); refine blk_put (cs := #[.int .i64 0, .slice none 0 0]) ?_ 1 _ rfl; (with_reducible repeat (first | refine blk_drewN ?_ _ | refine blk_drew ?_ | refine blk_alloc ?_ _)); refine blk_put (cs := #[.int .i64 0, .slice none 0 0]) ?_ 0 _ rfl; (with_reducible repeat (first | refine blk_drewN ?_ _ | refine blk_drew ?_ | refine blk_alloc ?_ _)); exact BK175.out) Try.underlying24 rfl (by kernel_rfl)) rfl ?_
      exact ⟨_, by first | rfl | (simp [errW_none, errW_some] <;> rfl) | (simp [*, errW_none, errW_some] <;> rfl), by first | exact Kd.R_nil _ _ _ _ _ | exact Kd.N_nil _ _ _ _ _ | exact Kd.V_nil _ _ _ _ _ | exact Kd.Q_nil _ _ _ _ _ | exact Kd.S_nil _ _ _ _ _, bks HB.out⟩

/-! ### impl_ringCode: function 76 -/
def impl_ringCode.j0 : Nat → Bool → Int → List Int → Int → List Int → Option (Int)
 | 0, _, _, _, _, _ => none
 | k + 1, x5, x193000, x193001, x194000, x194001 => if x5 = true then (some 1) else (if x193000 = x194000 then (some 0) else (some 2))
def impl_ringCode.f (k : Nat) (a0_0 : Int) (l0_1 : List Int) (a1_0 : Int) (l1_1 : List Int) : Option (Int) := (impl_IsRing.f k a0_0 l0_1).bind fun t194 => (if t194 = true then ((impl_IsRing.f k a1_0 l1_1).bind fun t195 => (impl_ringCode.j0 k (!t195) a0_0 l0_1 a1_0 l1_1)) else (impl_ringCode.j0 k true a0_0 l0_1 a1_0 l1_1))
theorem impl_ringCode.mono_l : ∀ k, (∀ y0 y1 y2 y3 y4, LeO (impl_ringCode.j0 k y0 y1 y2 y3 y4) (impl_ringCode.j0 (k + 1) y0 y1 y2 y3 y4))
 | 0 => fun _ _ _ _ _ r h => by simp [impl_ringCode.j0] at h
 | k + 1 => by
  have ih0 := impl_ringCode.mono_l k
  ·intro y0 y1 y2 y3 y4
   unfold impl_ringCode.j0
   repeat' first | (with_reducible first | exact ih0 _ _ _ _ _ | exact impl_IsRing.mono _ _ _ | exact LeO.refl _ | exact LeO.none _ | refine LeO.ite ?_ ?_ | refine LeO.bind ?_ (fun _ => ?_)) | exact ih0 _ _ _ _ _ | exact LeO.none _ | refine LeO.ite ?_ ?_ | refine LeO.bind ?_ (fun _ => ?_)
theorem impl_ringCode.mono : ∀ a0 a1 a2 a3 k, LeO (impl_ringCode.f k a0 a1 a2 a3) (impl_ringCode.f (k + 1) a0 a1 a2 a3) := by
 intro a0 a1 a2 a3 k
 have ih0 := impl_ringCode.mono_l k
 unfold impl_ringCode.f
 repeat' first | (with_reducible first | exact ih0 _ _ _ _ _ | exact impl_IsRing.mono _ _ _ | exact LeO.refl _ | exact LeO.none _ | refine LeO.ite ?_ ?_ | refine LeO.bind ?_ (fun _ => ?_)) | exact ih0 _ _ _ _ _ | exact LeO.none _ | refine LeO.ite ?_ ?_ | refine LeO.bind ?_ (fun _ => ?_)
set_option maxHeartbeats 8000000 in
set_option maxRecDepth 100000 in
theorem impl_ringCode.calls (k : Nat) (a0_0 : Int) (A0_1 : Option Addr) (c0_1 : Nat) (l0_1 : List Int) (a1_0 : Int) (A1_1 : Option Addr) (c1_1 : Nat) (l1_1 : List Int) (r : Int) (w : World) (hr0_1 : Kd.C (Kd.int .i64) w A0_1 l0_1.length l0_1) (hc0_1 : l0_1.length ≤ c0_1) (hr1_1 : Kd.C (Kd.int .i64) w A1_1 l1_1.length l1_1) (hc1_1 : l1_1.length ≤ c1_1) (h : impl_ringCode.f k a0_0 l0_1 a1_0 l1_1 = some r) :
  Calls Try.prog 76 #[.agg #[.int .i64 a0_0, .slice A0_1 l0_1.length c0_1], .agg #[.int .i64 a1_0, .slice A1_1 l1_1.length c1_1]] w fun e w' => e = .returned (.int .i64 r) ∧ Below w.heap.size w w' := by
 have hu24 := Try.underlying24
 have HR0_1 := Aside0.mk hr0_1
 have HC0_1 := Aside0.mk hc0_1
 clear hr0_1 hc0_1
 have HR1_1 := Aside0.mk hr1_1
 have HC1_1 := Aside0.mk hc1_1
 clear hr1_1 hc1_1
 have HB := Aside0.mk (Below.refl w.heap.size w)
 have H := h
 unfold impl_ringCode.f at H
 clear h
 have HC3 := Aside0.mk H
 clear H
 go_enter Try.func76, Try.ntmps76
 go_upto_region 1 with (first | ((with_reducible refine gate_dst (N := 2) rfl ?_); refine bx 2 #[.int .i64 a0_0, .slice A0_1 l0_1.length c0_1] 24 (fun gb192 hg w4 hbox hb => ?_); have BK192 := Aside0.mk hbox; have GW192 := ge HB hg; have GE192 := GW192; replace HB := hs HB hb; clear hb hbox hg) | ((with_reducible refine gate_dst (N := 3) rfl ?_); refine bx 3 #[.int .i64 a1_0, .slice A1_1 l1_1.length c1_1] 24 (fun gb193 hg w5 hbox hb => ?_); have BK193 := Aside0.mk hbox; have GW193 := ge HB hg; have GE193 := GW193; obtain ⟨NB192_193, NB193_192⟩ := nb BK192 hg; replace BK192 := bb BK192 hb; replace HB := hs HB hb; clear hb hbox hg))
 (try simp only [Act.put, List.setIfInBounds_toArray, List.set_cons_zero, List.set_cons_succ])
 go_cut [5] (fun v5 wc => ∃ (kq : Nat) (x5_2 : Bool), v5 = .bool x5_2 ∧ Aside0 (impl_ringCode.j0 kq x5_2 a0_0 l0_1 a1_0 l1_1 = some r) ∧ Aside0 (kq ≤ k) ∧ Aside0 (wc.heap[gb192]? = some (.cells #[.int .i64 a0_0, (.slice A0_1 l0_1.length c0_1)] 24 (0, 0))) ∧ Aside0 (wc.heap[gb193]? = some (.cells #[.int .i64 a1_0, (.slice A1_1 l1_1.length c1_1)] 24 (0, 0))) ∧ Aside0 (Below w.heap.size w wc))
 case first =>
  have H := HC3.out
  clear HC3
  replace H := Option.bind_eq_some_iff.mp H
  obtain ⟨t194, A60, H⟩ := H
  try dsimp only at H
  have A6 := Aside0.mk A60
  clear A60
  by_cases c7 : t194 = true
  ·subst c7
   have H1 : ((impl_IsRing.f k a1_0 l1_1).bind fun t195 => (impl_ringCode.j0 k (!t195) a0_0 l0_1 a1_0 l1_1)) = some r := by rw [if_pos rfl] at H; exact H
   clear H
   have H := H1
   clear H1
   replace H := Option.bind_eq_some_iff.mp H
   obtain ⟨t195, A80, H⟩ := H
   try dsimp only at H
   have A8 := Aside0.mk A80
   clear A80
   have H' := Aside0.mk H
   clear H
   have hnb9 := NB192_193.out
   have hnc9 := NB193_192.out
   have hcz10_0 : w5.cell? ⟨gb192, 0, none⟩ = some (.int .i64 a0_0) := (blk_cell BK192.out 0).trans rfl
   have hcz10_1 : w5.cell? ⟨gb192, 1, none⟩ = some (.slice A0_1 l0_1.length c0_1) := (blk_cell BK192.out 1).trans rfl
   have hfz10_0 := blk_frozen BK192.out 0
   have hfz10_1 := blk_frozen BK192.out 1
   go_wp2_with (first | ((with_reducible refine gate_callee (f := 42) rfl ?_); refine gl (some 7) Try.func42 #[.agg #[.int .i64 a0_0, .slice A0_1 l0_1.length c0_1]] ?_; (with_reducible refine (impl_IsRing.calls k a0_0 _ _ l0_1 true _ ?side1 ?side2 A6.out).mono ?_); (case side1 => repeat (first | exact (Kd.C_below HR0_1.out HB.out) | (with_reducible refine Kd.C_alloc ?_ _) | (with_reducible refine Kd.C_drewN ?_ _) | (with_reducible refine Kd.C_drew ?_))); (case side2 => exact HC0_1.out); rintro e w11 ⟨rfl, hb⟩; refine ⟨_, rfl, ?_⟩; replace BK192 := bb BK192 hb; replace BK193 := bb BK193 hb; replace HB := hs HB hb; (try clear hb); have hcz12_0 : w11.cell? ⟨gb193, 0, none⟩ = some (.int .i64 a1_0) := (blk_cell BK193.out 0).trans rfl; have hcz12_1 : w11.cell? ⟨gb193, 1, none⟩ = some (.slice A1_1 l1_1.length c1_1) := (blk_cell BK193.out 1).trans rfl; have hfz12_0 := blk_frozen BK193.out 0; have hfz12_1 := blk_frozen BK193.out 1) | (go_at_call 42; (with_reducible refine (impl_IsRing.calls k a1_0 _ _ l1_1 t195 _ ?side1 ?side2 A8.out).mono ?_); (case side1 => repeat (first | exact (Kd.C_below HR1_1.out HB.out) | (with_reducible refine Kd.C_alloc ?_ _) | (with_reducible refine Kd.C_drewN ?_ _) | (with_reducible refine Kd.C_drew ?_))); (case side2 => exact HC1_1.out); rintro e w13 ⟨rfl, hb⟩; replace BK192 := bb BK192 hb; replace BK193 := bb BK193 hb; replace HB := hs HB hb; (try clear hb)))
   go_meet
   case rel => exact ⟨_, (!t195), (by first | rfl | (simp; done) | (simp [*]; done)), H', ⟨by first | omega | exact Nat.le_refl _⟩, ⟨pk BK192.out⟩, ⟨pk BK193.out⟩, ⟨bks HB.out⟩⟩
  ·replace c7 := Bool.eq_false_iff.mpr c7
   subst c7
   have H1 : (impl_ringCode.j0 k true a0_0 l0_1 a1_0 l1_1) = some r := by rw [if_neg (show ¬ (false = true) by decide)] at H; exact H
   clear H
   have H := H1
   clear H1
   have H' := Aside0.mk H
   clear H
   have hnb14 := NB192_193.out
   have hnc14 := NB193_192.out
   have hcz15_0 : w5.cell? ⟨gb192, 0, none⟩ = some (.int .i64 a0_0) := (blk_cell BK192.out 0).trans rfl
   have hcz15_1 : w5.cell? ⟨gb192, 1, none⟩ = some (.slice A0_1 l0_1.length c0_1) := (blk_cell BK192.out 1).trans rfl
   have hfz15_0 := blk_frozen BK192.out 0
   have hfz15_1 := blk_frozen BK192.out 1
   go_wp2_with (first | ((with_reducible refine gate_callee (f := 42) rfl ?_); refine gl (some 7) Try.func42 #[.agg #[.int .i64 a0_0, .slice A0_1 l0_1.length c0_1]] ?_; (with_reducible refine (impl_IsRing.calls k a0_0 _ _ l0_1 false _ ?side1 ?side2 A6.out).mono ?_); (case side1 => repeat (first | exact (Kd.C_below HR0_1.out HB.out) | (with_reducible refine Kd.C_alloc ?_ _) | (with_reducible refine Kd.C_drewN ?_ _) | (with_reducible refine Kd.C_drew ?_))); (case side2 => exact HC0_1.out); rintro e w16 ⟨rfl, hb⟩; refine ⟨_, rfl, ?_⟩; replace BK192 := bb BK192 hb; replace BK193 := bb BK193 hb; replace HB := hs HB hb; (try clear hb)))
   go_meet
   case rel => exact ⟨_, (true), (by first | rfl | (simp; done) | (simp [*]; done)), H', ⟨by first | omega | exact Nat.le_refl _⟩, ⟨pk BK192.out⟩, ⟨pk BK193.out⟩, ⟨bks HB.out⟩⟩
 case rest =>
  clear HC3
  try clear c1; try clear p2; try clear c4; try clear c7; try clear c9; try clear c14; try clear hcz10_0; try clear hcz10_1; try clear hcz12_0; try clear hcz12_1; try clear hcz15_0; try clear hcz15_1; try clear hfz10_0; try clear hfz10_1; try clear hfz12_0; try clear hfz12_1; try clear hfz15_0; try clear hfz15_1
  obtain ⟨kq, x5_2, rfl, HA, HJ2, BK192, BK193, HB⟩ := hcut
  cases kq with
  | zero => exact absurd HA.out (by simp [impl_ringCode.j0])
  | succ kj2 =>
   have H := HA.out
   clear HA
   simp only [impl_ringCode.j0] at H
   by_cases c17 : x5_2 = true
   ·subst c17
    have H1 : (some 1) = some r := by rw [if_pos rfl] at H; exact H
    clear H
    have H := H1
    clear H1
    obtain rfl := Option.some.inj H
    go_wp2
    go_ret
    exact ⟨by first | rfl | (simp [errW_none, errW_some] <;> rfl) | (simp [*, errW_none, errW_some] <;> rfl), bks HB.out⟩
   ·replace c17 := Bool.eq_false_iff.mpr c17
    subst c17
    have H1 : (if a0_0 = a1_0 then (some 0) else (some 2)) = some r := by rw [if_neg (show ¬ (false = true) by decide)] at H; exact H
    clear H
    have H := H1
    clear H1
    by_cases c18 : a0_0 = a1_0
    ·rw [if_pos c18] at H
     have c18b0 : (a0_0 == a1_0) = true := beq_iff_eq.mpr c18
     have c18b1 : (a0_0 != a1_0) = false := bne_eq_false_iff_eq.mpr c18
     clear c18
     obtain rfl := Option.some.inj H
     have hnb19 := NB192_193.out
     have hnc19 := NB193_192.out
     have hcz20_0 : wc.cell? ⟨gb192, 0, none⟩ = some (.int .i64 a0_0) := (blk_cell BK192.out 0).trans rfl
     have hcz20_1 : wc.cell? ⟨gb192, 1, none⟩ = some (.slice A0_1 l0_1.length c0_1) := (blk_cell BK192.out 1).trans rfl
     have hfz20_0 := blk_frozen BK192.out 0
     have hfz20_1 := blk_frozen BK192.out 1
     have hcz21_0 : wc.cell? ⟨gb193, 0, none⟩ = some (.int .i64 a1_0) := (blk_cell BK193.out 0).trans rfl
     have hcz21_1 : wc.cell? ⟨gb193, 1, none⟩ = some (.slice A1_1 l1_1.length c1_1) := (blk_cell BK193.out 1).trans rfl
     have hfz21_0 := blk_frozen BK193.out 0
     have hfz21_1 := blk_frozen BK193.out 1
     go_wp2
     go_ret
     exact ⟨by first | rfl | (simp [errW_none, errW_some] <;> rfl) | (simp [*, errW_none, errW_some] <;> rfl), bks HB.out⟩
    ·rw [if_neg c18] at H
     have c18b0 : (a0_0 == a1_0) = false := beq_eq_false_iff_ne.mpr c18
     have c18b1 : (a0_0 != a1_0) = true := bne_iff_ne.mpr c18
     obtain rfl := Option.some.inj H
     have hnb22 := NB192_193.out
     have hnc22 := NB193_192.out
     have hcz23_0 : wc.cell? ⟨gb192, 0, none⟩ = some (.int .i64 a0_0) := (blk_cell BK192.out 0).trans rfl
     have hcz23_1 : wc.cell? ⟨gb192, 1, none⟩ = some (.slice A0_1 l0_1.length c0_1) := (blk_cell BK192.out 1).trans rfl
     have hfz23_0 := blk_frozen BK192.out 0
     have hfz23_1 := blk_frozen BK192.out 1
     have hcz24_0 : wc.cell? ⟨gb193, 0, none⟩ = some (.int .i64 a1_0) := (blk_cell BK193.out 0).trans rfl
     have hcz24_1 : wc.cell? ⟨gb193, 1, none⟩ = some (.slice A1_1 l1_1.length c1_1) := (blk_cell BK193.out 1).trans rfl
     have hfz24_0 := blk_frozen BK193.out 0
     have hfz24_1 := blk_frozen BK193.out 1
     go_wp2
     go_ret
     exact ⟨by first | rfl | (simp [errW_none, errW_some] <;> rfl) | (simp [*, errW_none, errW_some] <;> rfl), bks HB.out⟩

/-! ### slices_Clone_int64_int64, BY HAND: function 78 -/
def slices_Clone_int64_int64.f (l0 : List Int) : Option (List Int) := if l0.length < 17592186044416 then some l0 else none
set_option maxHeartbeats 1600000 in
set_option maxRecDepth 100000 in
theorem slices_Clone_int64_int64.calls (A0 : Option Addr) (c0 : Nat) (l0 : List Int) (r : List Int) (w : World) (hr0 : Kd.C (Kd.int .i64) w A0 l0.length l0) (hc0 : l0.length ≤ c0) (h : slices_Clone_int64_int64.f l0 = some r) :
    Calls Try.prog 78 #[.slice A0 l0.length c0] w fun e w' => ∃ v0_ : Value, e = .returned (v0_) ∧ Kd.R (Kd.int .i64) 2 w' w.heap.size (fun _ => True) v0_ r ∧ Below w.heap.size w w' := by
  have hq := fun (w : World) (a : Option Addr) (n c n' c' : Nat) => Lib.run_eql_slice_nil w 22 2 a n c n' c' Try.underlying22
  have HR0 := Aside0.mk hr0
  have HB := Aside0.mk (Below.refl w.heap.size w)
  unfold slices_Clone_int64_int64.f at h
  by_cases c2 : l0.length < 17592186044416
  · rw [if_pos c2] at h
    have LMc2 := Aside0.mk c2
    obtain rfl := Option.some.inj h
    cases A0 with
    | none =>
      have hl : l0 = [] := by
        by_cases hz : 0 < l0.length
        · obtain ⟨ad, e, _⟩ := hr0.2.2 hz
          cases e
        · exact List.eq_nil_of_length_eq_zero (by omega)
      subst hl
      clear hr0 hc0 h c2
      go_enter Try.func78, Try.ntmps78
      go_wp2_with fail
      go_ret
      exact ⟨_, rfl, Kd.R_nil _ _ _ _ _, HB.out⟩
    | some ad =>
      obtain ⟨y107, hy107⟩ : ∃ y_ : List Int, y_ = (([] : List Int)) := ⟨_, rfl⟩
      have Ny107 := Aside0.mk hy107
      have Nl := Aside0.mk (show y107 ++ l0 = l0 by rw [hy107]; rfl)
      have Nz := Aside0.mk (show y107.length = 0 by rw [hy107]; rfl)
      clear hr0 hc0 h c2 hy107
      go_enter Try.func78, Try.ntmps78
      go_wp2_with (first | ((with_reducible refine gate_dst (N := 5) rfl ?_); refine Kd.R_lit (Kd.int .i64) _ 2 ?hg (N := 5) ?hd (xs := ([] : List Int)) (inner := []) (ok := fun _ => True) (okp := fun _ => True) ?hr ?hp (fun _ hk => hk) trivial (Below.refl _ _) (Nat.le_refl _) (by simp) ?_; (case hd => rfl); (case hg => rfl); (case hr => first | (go_simp; done) | (go_simp; rfl)); (case hp => exact (Reps.none _ _)); intro v108 w3 ho4 hb hg_ hnew_; clear hg_ hnew_; (first | rw [← Ny107.out] at ho4 | (simp only [Int.reduceToNat] at ho4; rw [← Ny107.out] at ho4)); have n0_ := Aside0.mk (Kd.R_lower ho4 (below_size (by repeat (first | (with_reducible first | exact HB.out | apply below_alloc | apply pw_below_drewN | apply below_drew1) | exact HB.out)))); have n1_ := Aside0.mk (below_step (by repeat (first | (with_reducible first | exact HB.out | apply below_alloc | apply pw_below_drewN | apply below_drew1) | exact HB.out)) hb); clear HB; have HO109 := n0_; have HB := n1_; clear n0_ n1_; clear hb ho4) | ((with_reducible refine gate_builtin (b := .append) (xs := #[.tmp 5, .tmp 6]) rfl ?_); at_builtin; refine Kd.R_append_rows (Kd.int .i64) (w0 := w) w.heap.size rfl (.tmp 5) (.tmp 6) 22 2 (.int .i64 0) 8 rfl Try.underlying22 info2 rfl (by decide) (by omega) v108 y107 l0 _ _ _ (fun _ => True) (fun _ => False) rfl rfl ?aO ?aR (fun _ _ h => h) (fun _ h => h.elim) ?aF ?aB ?aS ?aL ?_; (case aR => repeat (first | exact (Kd.C_below HR0.out HB.out) | (with_reducible refine Kd.C_alloc ?_ _) | (with_reducible refine Kd.C_drewN ?_ _) | (with_reducible refine Kd.C_drew ?_))); (case aB => exact (by repeat (first | (with_reducible first | exact HB.out | apply below_alloc | apply pw_below_drewN | apply below_drew1) | exact HB.out))); (case aF => exact (fun _ _ => trivial)); (case aO => exact (by (with_reducible repeat (first | apply Kd.R_alloc | apply Kd.R_drewN | apply Kd.R_drew)); exact HO109.out)); (case aS => exact (below_size (by repeat (first | (with_reducible first | exact HB.out | apply below_alloc | apply pw_below_drewN | apply below_drew1) | exact HB.out)))); (case aL => have := LMc2.out; have := Nz.out; omega); intro v111 w5 ho hb hg hat; rw [Nl.out] at ho; have n0_ := Aside0.mk (hb); have n1_ := Aside0.mk (ho); clear HB; clear HO109; have HB := n0_; have HO112 := n1_; clear n0_ n1_; clear ho hb hg hat))
      go_ret
      exact ⟨_, rfl, by (with_reducible repeat (first | apply Kd.R_alloc | apply Kd.R_drewN | apply Kd.R_drew)); exact HO112.out, by repeat (first | (with_reducible first | exact HB.out | apply below_alloc | apply pw_below_drewN | apply below_drew1) | exact HB.out)⟩
  · rw [if_neg c2] at h
    cases h

/-! ### impl_ringOf: function 79 -/
def impl_ringOf.f (a0 : Int) (l1 : List Int) : Option (Int × List Int × Int) := (impl_areSmall.f l1 1000000000).bind fun t197 => (if t197 = true then (some (a0, l1, 0)) else (some (0, ([] : List Int), 3)))
set_option maxHeartbeats 8000000 in
set_option maxRecDepth 100000 in
theorem impl_ringOf.calls (a0 : Int) (P1_ : Nat → Prop) (u9000_ : Value) (l1 : List Int) (r1 : Int) (r2 : List Int) (r3 : Int) (w0 w : World) (hB : Below w0.heap.size w0 w) (ho1 : Kd.R (Kd.int .i64) 2 w w0.heap.size P1_ u9000_ l1) (h : impl_ringOf.f a0 l1 = some (r1, r2, r3)) :
  Calls Try.prog 79 #[.int .i64 a0, u9000_] w fun e w' => ∃ v1_ : Value, e = .returned (.tuple #[.agg #[.int .i64 r1, v1_], .int .i64 r3]) ∧ Kd.R (Kd.int .i64) 2 w' w0.heap.size (fun k_ => (P1_ k_ ∨ w.heap.size ≤ k_)) v1_ r2 ∧ Below w0.heap.size w0 w' ∧ Kept w w' (fun k_ => P1_ k_) := by
 have hu24 := Try.underlying24
 have HO1 := Aside0.mk (show Kd.R (Kd.int .i64) 2 w w0.heap.size (fun k_ => (P1_ k_ ∨ w.heap.size ≤ k_)) u9000_ l1 from Kd.R_mono ho1 (fun k_ hk => (.inl hk)))
 have HK := Aside0.mk (Kept.refl w (fun k_ => P1_ k_))
 have HW0 := Aside0.mk hB.size
 have HB := Aside0.mk hB
 clear hB
 have H := h
 unfold impl_ringOf.f at H
 clear h
 replace H := Option.bind_eq_some_iff.mp H
 obtain ⟨t197, A30, H⟩ := H
 try dsimp only at H
 have A3 := Aside0.mk A30
 clear A30
 by_cases c4 : t197 = true
 ·subst c4
  have H1 : (some (a0, l1, 0)) = some (r1, r2, r3) := by rw [if_pos rfl] at H; exact H
  clear H
  have H := H1
  clear H1
  simp only [Option.some.injEq, Prod.mk.injEq] at H
  obtain ⟨rfl, rfl, rfl⟩ := H
  go_enter Try.func79, Try.ntmps79
  go_wp2_with (first | ((with_reducible refine gate_dst (N := 4) rfl ?_); refine bx 4 #[.int .i64 0, .slice none 0 0] 24 (fun gb196 hg w5 hbox hb => ?_); have BK196 := Aside0.mk hbox; have GW196 := Aside0.mk (by rw [hg]; exact (by first | exact HK.out.1 | exact (show Kept w _ (fun k_ => P1_ k_) from by repeat (first | (with_reducible first | exact HK.out | apply Kept.alloc | apply Kept.drewN | apply Kept.drew) | exact HK.out)).1) : w.heap.size ≤ gb196); have GE196 := Aside0.mk (by rw [hg]; exact (below_size (bk HB.out)) : w0.heap.size ≤ gb196); replace HO1 := rb HO1 hb; replace HK := Aside0.mk (Kept.below (S := (fun k_ => P1_ k_)) (by repeat (first | (with_reducible first | exact HK.out | apply Kept.alloc | apply Kept.drewN | apply Kept.drew) | exact HK.out)) hb); replace HB := hs HB hb; clear hb hbox hg; obtain ⟨Ao6, co6, eo6⟩ := Kd.R_slice HO1.out; subst eo6) | ((with_reducible refine gate_callee (f := 81) rfl ?_); refine gl (some 7) Try.func81 #[.slice Ao6 l1.length co6, .int .i64 1000000000] ?_; (with_reducible refine (impl_areSmall.calls _ _ l1 1000000000 true _ ?side1 ?side2 A3.out).mono ?_); (case side1 => repeat (first | exact (Kd.R_reads' HO1.out).2.2 | (with_reducible refine Kd.C_alloc ?_ _) | (with_reducible refine Kd.C_drewN ?_ _) | (with_reducible refine Kd.C_drew ?_))); (case side2 => exact (Kd.R_reads' HO1.out).2.1); rintro e w7 ⟨rfl, hb⟩; refine ⟨_, rfl, ?_⟩; replace HO1 := rb HO1 hb; replace BK196 := bb BK196 hb; replace HK := Aside0.mk (Kept.below (S := (fun k_ => P1_ k_)) (by repeat (first | (with_reducible first | exact HK.out | apply Kept.alloc | apply Kept.drewN | apply Kept.drew | refine Kept.setCell ?_ (.inr GW196.out) _) | exact HK.out)) hb); replace HB := hs HB hb; (try clear hb); have hcz8_0 : w7.cell? ⟨gb196, 0, none⟩ = some (.int .i64 0) := (blk_cell BK196.out 0).trans rfl; have hcz8_1 : w7.cell? ⟨gb196, 1, none⟩ = some (.slice none 0 0) := (blk_cell BK196.out 1).trans rfl; have hfz8_0 := blk_frozen BK196.out 0; have hfz8_1 := blk_frozen BK196.out 1))
  refine bodyPost_ret (results_ct rfl _ _ gb196 24 #[.int .i64 a0, .slice Ao6 l1.length co6] (0, 0) _ rfl (by (with_reducible repeat (first | refine blk_drewN ?_ _ | refine blk_drew ?_ | refine blk_alloc ?_ _)); refine blk_put (cs := #[.int .i64 a0, .slice none 0 0]) ?_ 1 _ rfl; (with_reducible repeat (first | refine blk_drewN ?_ _ | refine blk_drew ?_ | refine blk_alloc ?_ _)); refine blk_put (cs := #[.int .i64 0, .slice none 0 0]) ?_ 0 _ rfl; (with_reducible repeat (first | refine blk_drewN ?_ _ | refine blk_drew ?_ | refine blk_alloc ?_ _)); exact BK196.out) Try.underlying24 rfl (by kernel_rfl)) rfl ?_
  exact ⟨_, by first | rfl | (simp [errW_none, errW_some] <;> rfl) | (simp [*, errW_none, errW_some] <;> rfl), by (with_reducible repeat (first | apply Kd.R_alloc | apply Kd.R_drewN | apply Kd.R_drew)); exact Kd.R_mono (Kd.R_far (p := ⟨gb196, 1, none⟩) (Kd.R_far (p := ⟨gb196, 0, none⟩) (Kd.R_types HO1.out BK196.out (by decide)) (fun _ hk => hk.2) (.int .i64 a0)) (fun _ hk => hk.2) (.slice Ao6 l1.length co6)) (fun _ hk => hk.1), bks HB.out, by repeat (first | (with_reducible first | exact HK.out | apply Kept.alloc | apply Kept.drewN | apply Kept.drew | refine Kept.setCell ?_ (.inr GW196.out) _) | exact HK.out)⟩
 ·replace c4 := Bool.eq_false_iff.mpr c4
  subst c4
  have H1 : (some (0, ([] : List Int), 3)) = some (r1, r2, r3) := by rw [if_neg (show ¬ (false = true) by decide)] at H; exact H
  clear H
  have H := H1
  clear H1
  simp only [Option.some.injEq, Prod.mk.injEq] at H
  obtain ⟨rfl, rfl, rfl⟩ := H
  go_enter Try.func79, Try.ntmps79
  go_wp2_with (first | ((with_reducible refine gate_dst (N := 4) rfl ?_); refine bx 4 #[.int .i64 0, .slice none 0 0] 24 (fun gb196 hg w9 hbox hb => ?_); have BK196 := Aside0.mk hbox; have GW196 := Aside0.mk (by rw [hg]; exact (by first | exact HK.out.1 | exact (show Kept w _ (fun k_ => P1_ k_) from by repeat (first | (with_reducible first | exact HK.out | apply Kept.alloc | apply Kept.drewN | apply Kept.drew) | exact HK.out)).1) : w.heap.size ≤ gb196); have GE196 := Aside0.mk (by rw [hg]; exact (below_size (bk HB.out)) : w0.heap.size ≤ gb196); replace HO1 := rb HO1 hb; replace HK := Aside0.mk (Kept.below (S := (fun k_ => P1_ k_)) (by repeat (first | (with_reducible first | exact HK.out | apply Kept.alloc | apply Kept.drewN | apply Kept.drew) | exact HK.out)) hb); replace HB := hs HB hb; clear hb hbox hg; obtain ⟨Ao10, co10, eo10⟩ := Kd.R_slice HO1.out; subst eo10) | ((with_reducible refine gate_callee (f := 81) rfl ?_); refine gl (some 7) Try.func81 #[.slice Ao10 l1.length co10, .int .i64 1000000000] ?_; (with_reducible refine (impl_areSmall.calls _ _ l1 1000000000 false _ ?side1 ?side2 A3.out).mono ?_); (case side1 => repeat (first | exact (Kd.R_reads' HO1.out).2.2 | (with_reducible refine Kd.C_alloc ?_ _) | (with_reducible refine Kd.C_drewN ?_ _) | (with_reducible refine Kd.C_drew ?_))); (case side2 => exact (Kd.R_reads' HO1.out).2.1); rintro e w11 ⟨rfl, hb⟩; refine ⟨_, rfl, ?_⟩; replace HO1 := rb HO1 hb; replace BK196 := bb BK196 hb; replace HK := Aside0.mk (Kept.below (S := (fun k_ => P1_ k_)) (by repeat (first | (with_reducible first | exact HK.out | apply Kept.alloc | apply Kept.drewN | apply Kept.drew | refine Kept.setCell ?_ (.inr GW196.out) _) | exact HK.out)) hb); replace HB := hs HB hb; (try clear hb); have hcz12_0 : w11.cell? ⟨gb196, 0, none⟩ = some (.int .i64 0) := (blk_cell BK196.out 0).trans rfl; have hcz12_1 : w11.cell? ⟨gb196, 1, none⟩ = some (.slice none 0 0) := (blk_cell BK196.out 1).trans rfl; have hfz12_0 := blk_frozen BK196.out 0; have hfz12_1 := blk_frozen BK196.out 1))
  refine bodyPost_ret (results_ct rfl _ _ gb196 24 #[.int .i64 0, .slice none 0 0] (0, 0) _ rfl (by (with_reducible repeat (first | refine blk_drewN ?_ _ | refine blk_drew ?_ | refine blk_alloc ?_ _)); refine blk_put (cs := #[.int .i64 0, .slice none 0 0]) ?_ 1 _ rfl; (with_reducible repeat (first | refine blk_drewN ?_ _ | refine blk_drew ?_ | refine blk_alloc ?_ _)); refine blk_put (cs := #[.int .i64 0, .slice none 0 0]) ?_ 0 _ rfl; (with_reducible repeat (first | refine blk_drewN ?_ _ | refine blk_drew ?_ | refine blk_alloc ?_ _)); exact BK196.out) Try.underlying24 rfl (by kernel_rfl)) rfl ?_
  exact ⟨_, by first | rfl | (simp [errW_none, errW_some] <;> rfl) | (simp [*, errW_none, errW_some] <;> rfl), by first | exact Kd.R_nil _ _ _ _ _ | exact Kd.N_nil _ _ _ _ _ | exact Kd.V_nil _ _ _ _ _ | exact Kd.Q_nil _ _ _ _ _ | exact Kd.S_nil _ _ _ _ _, bks HB.out, by repeat (first | (with_reducible first | exact HK.out | apply Kept.alloc | apply Kept.drewN | apply Kept.drew | refine Kept.setCell ?_ (.inr GW196.out) _) | exact HK.out)⟩

/-! ### impl_AddRings: function 26 -/
def impl_AddRings.l0 : Nat → Int → List Int → List Int → Int → Int → Int → List Int → Option (Int × List Int × Int)
 | 0, _, _, _, _, _, _, _ => none
 | k + 1, x2, x9, x27, x28, x29, x199000, x199001 => if x29 < x28 then (if 0 ≤ x29 then (if x29 < (x27.length : Int) then (if x29 < (x9.length : Int) then (impl_AddRings.l0 k x2 (x9.set (x29 : Int).toNat (wrap64 ((rd x9 x29) + (wrap64 (x2 * (rd x27 x29)))))) x27 x28 (wrap64 (x29 + 1)) x199000 x199001) else (none)) else (none)) else (none)) else ((impl_ringOf.f x199000 x9).bind fun bt209 => (some (bt209.1, bt209.2.1, bt209.2.2)))
def impl_AddRings.f (k : Nat) (a0_0 : Int) (l0_1 : List Int) (a1_0 : Int) (l1_1 : List Int) (a2 : Int) : Option (Int × List Int × Int) := (impl_ringCode.f k a0_0 l0_1 a1_0 l1_1).bind fun t201 => (if t201 = 0 then ((impl_within.f a2 (-1000) 1000).bind fun t202 => (if t202 = true then ((slices_Clone_int64_int64.f l0_1).bind fun t203 => (impl_AddRings.l0 k a2 t203 l1_1 (l1_1.length : Int) 0 a0_0 l0_1)) else (some (0, ([] : List Int), 2)))) else (some (0, ([] : List Int), t201)))
theorem impl_AddRings.mono_l : ∀ k, (∀ y0 y1 y2 y3 y4 y5 y6, LeO (impl_AddRings.l0 k y0 y1 y2 y3 y4 y5 y6) (impl_AddRings.l0 (k + 1) y0 y1 y2 y3 y4 y5 y6))
 | 0 => fun _ _ _ _ _ _ _ r h => by simp [impl_AddRings.l0] at h
 | k + 1 => by
  have ih0 := impl_AddRings.mono_l k
  ·intro y0 y1 y2 y3 y4 y5 y6
   unfold impl_AddRings.l0
   repeat' first | (with_reducible first | exact ih0 _ _ _ _ _ _ _ | exact impl_ringCode.mono _ _ _ _ _ | exact LeO.refl _ | exact LeO.none _ | refine LeO.ite ?_ ?_ | refine LeO.bind ?_ (fun _ => ?_)) | exact ih0 _ _ _ _ _ _ _ | exact LeO.none _ | refine LeO.ite ?_ ?_ | refine LeO.bind ?_ (fun _ => ?_)
theorem impl_AddRings.mono : ∀ a0 a1 a2 a3 a4 k, LeO (impl_AddRings.f k a0 a1 a2 a3 a4) (impl_AddRings.f (k + 1) a0 a1 a2 a3 a4) := by
 intro a0 a1 a2 a3 a4 k
 have ih0 := impl_AddRings.mono_l k
 unfold impl_AddRings.f
 repeat' first | (with_reducible first | exact ih0 _ _ _ _ _ _ _ | exact impl_ringCode.mono _ _ _ _ _ | exact LeO.refl _ | exact LeO.none _ | refine LeO.ite ?_ ?_ | refine LeO.bind ?_ (fun _ => ?_)) | exact ih0 _ _ _ _ _ _ _ | exact LeO.none _ | refine LeO.ite ?_ ?_ | refine LeO.bind ?_ (fun _ => ?_)
set_option maxHeartbeats 8000000 in
set_option maxRecDepth 100000 in
theorem impl_AddRings.calls (k : Nat) (a0_0 : Int) (A0_1 : Option Addr) (c0_1 : Nat) (l0_1 : List Int) (a1_0 : Int) (A1_1 : Option Addr) (c1_1 : Nat) (l1_1 : List Int) (a2 : Int) (r1 : Int) (r2 : List Int) (r3 : Int) (w : World) (hr0_1 : Kd.C (Kd.int .i64) w A0_1 l0_1.length l0_1) (hc0_1 : l0_1.length ≤ c0_1) (hr1_1 : Kd.C (Kd.int .i64) w A1_1 l1_1.length l1_1) (hc1_1 : l1_1.length ≤ c1_1) (h : impl_AddRings.f k a0_0 l0_1 a1_0 l1_1 a2 = some (r1, r2, r3)) :
  Calls Try.prog 26 #[.agg #[.int .i64 a0_0, .slice A0_1 l0_1.length c0_1], .agg #[.int .i64 a1_0, .slice A1_1 l1_1.length c1_1], .int .i64 a2] w fun e w' => ∃ v1_ : Value, e = .returned (.tuple #[.agg #[.int .i64 r1, v1_], .int .i64 r3]) ∧ Kd.R (Kd.int .i64) 2 w' w.heap.size (fun _ => True) v1_ r2 ∧ Below w.heap.size w w' := by
 have hu24 := Try.underlying24
 have HR0_1 := Aside0.mk hr0_1
 have HC0_1 := Aside0.mk hc0_1
 clear hr0_1 hc0_1
 have HR1_1 := Aside0.mk hr1_1
 have HC1_1 := Aside0.mk hc1_1
 clear hr1_1 hc1_1
 have HB := Aside0.mk (Below.refl w.heap.size w)
 have H := h
 unfold impl_AddRings.f at H
 clear h
 replace H := Option.bind_eq_some_iff.mp H
 obtain ⟨t201, A40, H⟩ := H
 try dsimp only at H
 have A4 := Aside0.mk A40
 clear A40
 by_cases c5 : t201 = 0
 ·rw [if_pos c5] at H
  have c5b0 : (t201 == 0) = true := beq_iff_eq.mpr c5
  have c5b1 : (t201 != 0) = false := bne_eq_false_iff_eq.mpr c5
  clear c5
  replace H := Option.bind_eq_some_iff.mp H
  obtain ⟨t202, A60, H⟩ := H
  try dsimp only at H
  have A6 := Aside0.mk A60
  clear A60
  by_cases c7 : t202 = true
  ·subst c7
   have H1 : ((slices_Clone_int64_int64.f l0_1).bind fun t203 => (impl_AddRings.l0 k a2 t203 l1_1 (l1_1.length : Int) 0 a0_0 l0_1)) = some (r1, r2, r3) := by rw [if_pos rfl] at H; exact H
   clear H
   have H := H1
   clear H1
   replace H := Option.bind_eq_some_iff.mp H
   obtain ⟨t203, A80, H⟩ := H
   try dsimp only at H
   have A8 := Aside0.mk A80
   clear A80
   have H' := Aside0.mk H
   clear H
   go_enter Try.func26, Try.ntmps26
   go_wp2_with (first | ((with_reducible refine gate_dst (N := 3) rfl ?_); refine bx 3 #[.int .i64 a0_0, .slice A0_1 l0_1.length c0_1] 24 (fun gb198 hg w9 hbox hb => ?_); have BK198 := Aside0.mk hbox; have GW198 := ge HB hg; have GE198 := GW198; replace HB := hs HB hb; clear hb hbox hg) | ((with_reducible refine gate_dst (N := 4) rfl ?_); refine bx 4 #[.int .i64 a1_0, .slice A1_1 l1_1.length c1_1] 24 (fun gb199 hg w10 hbox hb => ?_); have BK199 := Aside0.mk hbox; have GW199 := ge HB hg; have GE199 := GW199; obtain ⟨NB198_199, NB199_198⟩ := nb BK198 hg; replace BK198 := bb BK198 hb; replace HB := hs HB hb; clear hb hbox hg) | ((with_reducible refine gate_dst (N := 6) rfl ?_); refine bx 6 #[.int .i64 0, .slice none 0 0] 24 (fun gb200 hg w11 hbox hb => ?_); have BK200 := Aside0.mk hbox; have GW200 := ge HB hg; have GE200 := GW200; obtain ⟨NB198_200, NB200_198⟩ := nb BK198 hg; obtain ⟨NB199_200, NB200_199⟩ := nb BK199 hg; replace BK198 := bb BK198 hb; replace BK199 := bb BK199 hb; replace HB := hs HB hb; clear hb hbox hg; have hnb12 := NB198_199.out; have hnc12 := NB199_198.out; have hnb13 := NB198_200.out; have hnc13 := NB200_198.out; have hcz14_0 : w11.cell? ⟨gb198, 0, none⟩ = some (.int .i64 a0_0) := (blk_cell BK198.out 0).trans rfl; have hcz14_1 : w11.cell? ⟨gb198, 1, none⟩ = some (.slice A0_1 l0_1.length c0_1) := (blk_cell BK198.out 1).trans rfl; have hfz14_0 := blk_frozen BK198.out 0; have hfz14_1 := blk_frozen BK198.out 1; have hnb15 := NB199_200.out; have hnc15 := NB200_199.out; have hcz16_0 : w11.cell? ⟨gb199, 0, none⟩ = some (.int .i64 a1_0) := (blk_cell BK199.out 0).trans rfl; have hcz16_1 : w11.cell? ⟨gb199, 1, none⟩ = some (.slice A1_1 l1_1.length c1_1) := (blk_cell BK199.out 1).trans rfl; have hfz16_0 := blk_frozen BK199.out 0; have hfz16_1 := blk_frozen BK199.out 1) | ((with_reducible refine gate_callee (f := 76) rfl ?_); refine gl (some 14) Try.func76 #[.agg #[.int .i64 a0_0, .slice A0_1 l0_1.length c0_1], .agg #[.int .i64 a1_0, .slice A1_1 l1_1.length c1_1]] ?_; (with_reducible refine (impl_ringCode.calls k a0_0 _ _ l0_1 a1_0 _ _ l1_1 t201 _ ?side1 ?side2 ?side3 ?side4 A4.out).mono ?_); (case side1 => repeat (first | exact (Kd.C_below HR0_1.out HB.out) | (with_reducible refine Kd.C_alloc ?_ _) | (with_reducible refine Kd.C_drewN ?_ _) | (with_reducible refine Kd.C_drew ?_))); (case side2 => exact HC0_1.out); (case side3 => repeat (first | exact (Kd.C_below HR1_1.out HB.out) | (with_reducible refine Kd.C_alloc ?_ _) | (with_reducible refine Kd.C_drewN ?_ _) | (with_reducible refine Kd.C_drew ?_))); (case side4 => exact HC1_1.out); rintro e w17 ⟨rfl, hb⟩; refine ⟨_, rfl, ?_⟩; replace BK198 := bb BK198 hb; replace BK199 := bb BK199 hb; replace BK200 := bb BK200 hb; replace HB := hs HB hb; (try clear hb)) | ((with_reducible refine gate_callee (f := 77) rfl ?_); refine gl (some 20) Try.func77 #[.int .i64 a2, .int .i64 (-1000), .int .i64 1000] ?_; (with_reducible refine (impl_within.calls a2 (-1000) 1000 true _ A6.out).mono ?_); rintro e w' ⟨rfl, ⟨nd, rfl⟩⟩; refine ⟨_, rfl, ?_⟩; have hcz18_0 : w17.cell? ⟨gb198, 0, none⟩ = some (.int .i64 a0_0) := (blk_cell BK198.out 0).trans rfl; have hcz18_1 : w17.cell? ⟨gb198, 1, none⟩ = some (.slice A0_1 l0_1.length c0_1) := (blk_cell BK198.out 1).trans rfl; have hfz18_0 := blk_frozen BK198.out 0; have hfz18_1 := blk_frozen BK198.out 1) | ((with_reducible refine gate_callee (f := 78) rfl ?_); refine gl (some 25) Try.func78 #[.slice A0_1 l0_1.length c0_1] ?_; (with_reducible refine (slices_Clone_int64_int64.calls _ _ l0_1 t203 _ ?side1 ?side2 A8.out).mono ?_); (case side1 => repeat (first | exact (Kd.C_below HR0_1.out (bks HB.out)) | (with_reducible refine Kd.C_alloc ?_ _) | (with_reducible refine Kd.C_drewN ?_ _) | (with_reducible refine Kd.C_drew ?_))); (case side2 => exact HC0_1.out); rintro e w19 ⟨v204, rfl, ho0, hb⟩; refine ⟨_, rfl, ?_⟩; have HO205 := Aside0.mk (Kd.R_lower ho0 (below_size (bks HB.out))); replace BK198 := bb BK198 hb; replace BK199 := bb BK199 hb; replace BK200 := bb BK200 hb; replace HB := hs HB hb; (try clear hb ho0); have hcz20_0 : w19.cell? ⟨gb199, 0, none⟩ = some (.int .i64 a1_0) := (blk_cell BK199.out 0).trans rfl; have hcz20_1 : w19.cell? ⟨gb199, 1, none⟩ = some (.slice A1_1 l1_1.length c1_1) := (blk_cell BK199.out 1).trans rfl; have hfz20_0 := blk_frozen BK199.out 0; have hfz20_1 := blk_frozen BK199.out 1))
   go_loopg [29] k (fun kq v29 w' => ∃ (x9_1 : List Int) (x29_1 : Int), v29 = .int .i64 x29_1 ∧ Aside0 (impl_AddRings.l0 kq a2 x9_1 l1_1 (l1_1.length : Int) x29_1 a0_0 l0_1 = some (r1, r2, r3)) ∧ Aside0 (kq ≤ k) ∧ Aside0 (Kd.R (Kd.int .i64) 2 w' w.heap.size (fun _ => True) v204 x9_1) ∧ Aside0 (w'.heap[gb198]? = some (.cells #[.int .i64 a0_0, (.slice A0_1 l0_1.length c0_1)] 24 (0, 0))) ∧ Aside0 (w'.heap[gb199]? = some (.cells #[.int .i64 a1_0, (.slice A1_1 l1_1.length c1_1)] 24 (0, 0))) ∧ Aside0 (w'.heap[gb200]? = some (.cells #[.int .i64 0, (.slice none 0 0)] 24 (0, 0))) ∧ Aside0 (Below w.heap.size w w'))
   case atStart => exact ⟨(t203), (0), (by first | rfl | (simp; done) | (simp [*]; done)), H', ⟨Nat.le_refl _⟩, ⟨rk HO205.out⟩, ⟨pk BK198.out⟩, ⟨pk BK199.out⟩, ⟨pk BK200.out⟩, ⟨bks HB.out⟩⟩
   case round =>
    clear H'
    try clear c1; try clear c2; try clear p2; try clear c5; try clear c5b0; try clear c5b1; try clear c7; try clear c12; try clear c13; try clear c15; try clear hcz14_0; try clear hcz14_1; try clear hcz16_0; try clear hcz16_1; try clear hcz18_0; try clear hcz18_1; try clear hcz20_0; try clear hcz20_1; try clear hfz14_0; try clear hfz14_1; try clear hfz16_0; try clear hfz16_1; try clear hfz18_0; try clear hfz18_1; try clear hfz20_0; try clear hfz20_1
    obtain ⟨x9_1, x29_1, rfl, HA, HK1, HO_9, BK198, BK199, BK200, HB⟩ := hrel
    cases gk with
    | zero => exact absurd HA.out (by simp [impl_AddRings.l0])
    | succ k1 =>
     have H := HA.out
     clear HA
     simp only [impl_AddRings.l0] at H
     by_cases c21 : x29_1 < (l1_1.length : Int)
     ·rw [if_pos c21] at H
      have c21b0 : decide (x29_1 < (l1_1.length : Int)) = true := decide_eq_true c21
      clear c21
      by_cases c22 : 0 ≤ x29_1
      rotate_left
      ·rw [if_neg c22] at H; exact absurd H (by simp)
      rw [if_pos c22] at H
      have c22b0 : decide (0 ≤ x29_1) = true := decide_eq_true c22
      clear c22
      by_cases c23 : x29_1 < (l1_1.length : Int)
      rotate_left
      ·rw [if_neg c23] at H; exact absurd H (by simp)
      rw [if_pos c23] at H
      have c23b0 : decide (x29_1 < (l1_1.length : Int)) = true := decide_eq_true c23
      clear c23
      by_cases c24 : x29_1 < (x9_1.length : Int)
      rotate_left
      ·rw [if_neg c24] at H; exact absurd H (by simp)
      rw [if_pos c24] at H
      have c24b0 : decide (x29_1 < (x9_1.length : Int)) = true := decide_eq_true c24
      clear c24
      obtain ⟨y208, hy208⟩ : ∃ y_ : List Int, y_ = (x9_1.set (x29_1 : Int).toNat (wrap64 ((rd x9_1 x29_1) + (wrap64 (a2 * (rd l1_1 x29_1)))))) := ⟨_, rfl⟩
      replace H : (impl_AddRings.l0 k1 a2 y208 l1_1 (l1_1.length : Int) (wrap64 (x29_1 + 1)) a0_0 l0_1) = some (r1, r2, r3) := by first | (rw [hy208]; with_reducible exact H) | (have H2_ := (Option.bind_some _ _).symm.trans H; rw [hy208]; with_reducible exact H2_) | (have H2_ := (Option.bind_some _ _).symm.trans H; with_reducible exact H2_) | with_reducible exact H | (rw [hy208]; exact H) | exact H
      have Ny208 := Aside0.mk hy208
      clear hy208
      have H' := Aside0.mk H
      clear H
      have p206 : 0 ≤ (x29_1 : Int) := of_decide_eq_true (by first | (with_reducible assumption) | assumption)
      have q206 : x29_1 < (l1_1.length : Int) := of_decide_eq_true (by first | (with_reducible assumption) | assumption)
      obtain ⟨ad206, e206, hx206_0⟩ := Kd.at_int HR1_1.out x29_1 p206 q206
      cases e206
      replace hx206_0 := (HB.out.cell (World.block_lt_of_cell? w _ hx206_0)).trans hx206_0
      replace p206 := eq_true p206
      replace q206 := eq_true q206
      obtain ⟨Ao26, co26, eo26⟩ := Kd.R_slice HO_9.out
      subst eo26
      have p207 : 0 ≤ (x29_1 : Int) := of_decide_eq_true (by first | (with_reducible assumption) | assumption)
      have q207 : x29_1 < (x9_1.length : Int) := of_decide_eq_true (by first | (with_reducible assumption) | assumption)
      obtain ⟨ad207, e207, hx207_0⟩ := Kd.at_int (Kd.R_reads' HO_9.out).2.2 x29_1 p207 q207
      cases e207
      replace p207 := eq_true p207
      replace q207 := eq_true q207
      have p25 : 0 ≤ (x29_1 : Int) := of_decide_eq_true (by first | (with_reducible assumption) | assumption)
      have q25 : (x29_1 : Int) < ((x9_1.length : Int) : Int) := of_decide_eq_true (by first | (with_reducible assumption) | assumption)
      obtain ⟨go25, co25, eo25, gb25, gl25, cl25, HG25⟩ := Kd.R_form HO_9.out (by omega)
      (first | cases eo25 | (injection eo25 with ea_ en_ ec_; (first | subst ea_ | (injection ea_ with ea_; subst ea_)); subst ec_; clear en_))
      have GB25 := Aside0.mk gb25
      have GG25 := Aside0.mk HG25
      clear gb25 gl25 HG25
      (first | simp only [add_plain] at hx207_0 | skip)
      obtain ⟨hx25_0, hf25_0⟩ := Kd.R_celln 0 HO_9.out (x29_1 : Int) p25 q25
      replace p25 := eq_true p25
      replace q25 := eq_true q25
      have HP27 := Kd.R_putg HO_9.out (x29_1 : Int) (wrap64 ((rd x9_1 x29_1) + (wrap64 (a2 * (rd l1_1 x29_1)))))
      go_wp2_with (first | ((with_reducible refine gate_store (t := 2) (p := 42) rfl ?_); refine store_event (t := 2) (p := 42) (v := ?vo_w28) (w1 := (wr.setCell ⟨go25, (x29_1 : Int).toNat, none⟩ (.int .i64 (wrap64 ((rd x9_1 x29_1) + (wrap64 (a2 * (rd l1_1 x29_1)))))))) ?hg ?ho ?hn ?hr ?_; (case ho => rfl); (case hg => rfl); (case hn => rfl); (case hr => first | (go_simp; done) | (go_simp; rfl)); intro w28 hw; have hg : wr.grownBy w28 (some go25) := (by rw [hw]; exact HP27.2); have hp_ : Kd.R (Kd.int .i64) 2 w28 w.heap.size (fun _ => True) (.slice (some ⟨go25, 0, none⟩) x9_1.length co26) y208 := (by rw [hw, Ny208.out]; exact HP27.1); clear HP27; replace BK198 := Aside0.mk (blk_grown (pk BK198.out) hg (Kd.R_ne HO_9.out BK198.out (by decide))); replace BK199 := Aside0.mk (blk_grown (pk BK199.out) hg (Kd.R_ne HO_9.out BK199.out (by decide))); replace BK200 := Aside0.mk (blk_grown (pk BK200.out) hg (Kd.R_ne HO_9.out BK200.out (by decide))); replace HO_9 := Aside0.mk hp_; replace HB := Aside0.mk (by rw [hw]; exact below_set (HB.out) GB25.out : Below w.heap.size w w28); clear hg hw hp_))
      go_roundg k1
      case measure => have := HK1.out; omega
      case rel => exact ⟨(y208), (wrap64 (x29_1 + 1)), (by first | rfl | (simp; done) | (simp [*]; done)), H', ⟨by have := HK1.out; omega⟩, ⟨rk HO_9.out⟩, ⟨pk BK198.out⟩, ⟨pk BK199.out⟩, ⟨pk BK200.out⟩, ⟨bks HB.out⟩⟩
     ·rw [if_neg c21] at H
      have c21b0 : decide (x29_1 < (l1_1.length : Int)) = false := decide_eq_false c21
      clear c21
      replace H := Option.bind_eq_some_iff.mp H
      obtain ⟨⟨t209, t210, t213⟩, A290, H⟩ := H
      try dsimp only at H
      have A29 := Aside0.mk A290
      clear A290
      simp only [Option.some.injEq, Prod.mk.injEq] at H
      obtain ⟨rfl, rfl, rfl⟩ := H
      have hnb30 := NB198_199.out
      have hnc30 := NB199_198.out
      have hnb31 := NB198_200.out
      have hnc31 := NB200_198.out
      have hcz32_0 : wr.cell? ⟨gb198, 0, none⟩ = some (.int .i64 a0_0) := (blk_cell BK198.out 0).trans rfl
      have hcz32_1 : wr.cell? ⟨gb198, 1, none⟩ = some (.slice A0_1 l0_1.length c0_1) := (blk_cell BK198.out 1).trans rfl
      have hfz32_0 := blk_frozen BK198.out 0
      have hfz32_1 := blk_frozen BK198.out 1
      obtain ⟨Ao33, co33, eo33⟩ := Kd.R_slice HO_9.out
      subst eo33
      go_wp2_with (first | ((with_reducible refine gate_callee (f := 79) rfl ?_); refine gl (some 47) Try.func79 #[.int .i64 a0_0, .slice Ao33 x9_1.length co33] ?_; (with_reducible refine (impl_ringOf.calls a0_0 (fun k_ => some k_ = (.slice Ao33 x9_1.length co33 : Value).ownBlock) (.slice Ao33 x9_1.length co33) x9_1 t209 t210 t213 w _ ?side1 ?side2 A29.out).mono ?_); (case side1 => repeat (first | (with_reducible first | exact HB.out | apply below_alloc | apply pw_below_drewN | apply below_drew1 | refine below_set ?_ GE198.out | refine below_set ?_ GE199.out | refine below_set ?_ GE200.out) | exact HB.out)); (case side2 => exact Kd.R_tight rfl HO_9.out); rintro e w34 ⟨v211, rfl, ho0, hb, hkp⟩; refine ⟨_, rfl, ?_⟩; have HO212 := Aside0.mk (Kd.R_mono (ok' := fun k_ => True) ho0 (fun k_ hk_ => trivial)); replace BK198 := Aside0.mk (blk_kept (pk BK198.out) hkp (fun hs_ => (fun e_ => (Kd.R_ne HO_9.out BK198.out (by decide)) e_) hs_)); replace BK199 := Aside0.mk (blk_kept (pk BK199.out) hkp (fun hs_ => (fun e_ => (Kd.R_ne HO_9.out BK199.out (by decide)) e_) hs_)); replace BK200 := Aside0.mk (blk_kept (pk BK200.out) hkp (fun hs_ => (fun e_ => (Kd.R_ne HO_9.out BK200.out (by decide)) e_) hs_)); replace HB := Aside0.mk hb; clear HO_9; (try clear hb hkp ho0); have hnb35 := NB200_199.out; have hnc35 := NB199_200.out; have hcz36_0 : w34.cell? ⟨gb200, 0, none⟩ = some (.int .i64 0) := (blk_cell BK200.out 0).trans rfl; have hcz36_1 : w34.cell? ⟨gb200, 1, none⟩ = some (.slice none 0 0) := (blk_cell BK200.out 1).trans rfl; have hfz36_0 := blk_frozen BK200.out 0; have hfz36_1 := blk_frozen BK200.out 1; obtain ⟨Ao37, co37, eo37⟩ := Kd.R_slice HO212.out; subst eo37))
      refine bodyPost_ret (results_ct rfl _ _ gb200 24 #[.int .i64 t209, .slice Ao37 t210.length co37] (0, 0) _ rfl (by (with_reducible repeat (first | refine blk_drewN ?_ _ | refine blk_drew ?_ | refine blk_alloc ?_ _)); refine blk_put (cs := #[.int .i64 t209, .slice none 0 0]) ?_ 1 _ rfl; (with_reducible repeat (first | refine blk_drewN ?_ _ | refine blk_drew ?_ | refine blk_alloc ?_ _)); refine blk_put (cs := #[.int .i64 0, .slice none 0 0]) ?_ 0 _ rfl; (with_reducible repeat (first | refine blk_drewN ?_ _ | refine blk_drew ?_ | refine blk_alloc ?_ _)); exact BK200.out) Try.underlying24 rfl (by kernel_rfl)) rfl ?_
      exact ⟨_, by first | rfl | (simp [errW_none, errW_some] <;> rfl) | (simp [*, errW_none, errW_some] <;> rfl), by (with_reducible repeat (first | apply Kd.R_alloc | apply Kd.R_drewN | apply Kd.R_drew)); exact Kd.R_mono (Kd.R_far (p := ⟨gb200, 1, none⟩) (Kd.R_far (p := ⟨gb200, 0, none⟩) (Kd.R_types HO212.out BK200.out (by decide)) (fun _ hk => hk.2) (.int .i64 t209)) (fun _ hk => hk.2) (.slice Ao37 t210.length co37)) (fun _ hk => trivial), bks HB.out⟩
  ·replace c7 := Bool.eq_false_iff.mpr c7
   subst c7
   have H1 : (some (0, ([] : List Int), 2)) = some (r1, r2, r3) := by rw [if_neg (show ¬ (false = true) by decide)] at H; exact H
   clear H
   have H := H1
   clear H1
   simp only [Option.some.injEq, Prod.mk.injEq] at H
   obtain ⟨rfl, rfl, rfl⟩ := H
   go_enter Try.func26, Try.ntmps26
   go_wp2_with (first | ((with_reducible refine gate_dst (N := 3) rfl ?_); refine bx 3 #[.int .i64 a0_0, .slice A0_1 l0_1.length c0_1] 24 (fun gb198 hg w38 hbox hb => ?_); have BK198 := Aside0.mk hbox; have GW198 := ge HB hg; have GE198 := GW198; replace HB := hs HB hb; clear hb hbox hg) | ((with_reducible refine gate_dst (N := 4) rfl ?_); refine bx 4 #[.int .i64 a1_0, .slice A1_1 l1_1.length c1_1] 24 (fun gb199 hg w39 hbox hb => ?_); have BK199 := Aside0.mk hbox; have GW199 := ge HB hg; have GE199 := GW199; obtain ⟨NB198_199, NB199_198⟩ := nb BK198 hg; replace BK198 := bb BK198 hb; replace HB := hs HB hb; clear hb hbox hg) | ((with_reducible refine gate_dst (N := 6) rfl ?_); refine bx 6 #[.int .i64 0, .slice none 0 0] 24 (fun gb200 hg w40 hbox hb => ?_); have BK200 := Aside0.mk hbox; have GW200 := ge HB hg; have GE200 := GW200; obtain ⟨NB198_200, NB200_198⟩ := nb BK198 hg; obtain ⟨NB199_200, NB200_199⟩ := nb BK199 hg; replace BK198 := bb BK198 hb; replace BK199 := bb BK199 hb; replace HB := hs HB hb; clear hb hbox hg; have hnb41 := NB198_199.out; have hnc41 := NB199_198.out; have hnb42 := NB198_200.out; have hnc42 := NB200_198.out; have hcz43_0 : w40.cell? ⟨gb198, 0, none⟩ = some (.int .i64 a0_0) := (blk_cell BK198.out 0).trans rfl; have hcz43_1 : w40.cell? ⟨gb198, 1, none⟩ = some (.slice A0_1 l0_1.length c0_1) := (blk_cell BK198.out 1).trans rfl; have hfz43_0 := blk_frozen BK198.out 0; have hfz43_1 := blk_frozen BK198.out 1; have hnb44 := NB199_200.out; have hnc44 := NB200_199.out; have hcz45_0 : w40.cell? ⟨gb199, 0, none⟩ = some (.int .i64 a1_0) := (blk_cell BK199.out 0).trans rfl; have hcz45_1 : w40.cell? ⟨gb199, 1, none⟩ = some (.slice A1_1 l1_1.length c1_1) := (blk_cell BK199.out 1).trans rfl; have hfz45_0 := blk_frozen BK199.out 0; have hfz45_1 := blk_frozen BK199.out 1) | ((with_reducible refine gate_callee (f := 76) rfl ?_); refine gl (some 14) Try.func76 #[.agg #[.int .i64 a0_0, .slice A0_1 l0_1.length c0_1], .agg #[.int .i64 a1_0, .slice A1_1 l1_1.length c1_1]] ?_; (with_reducible refine (impl_ringCode.calls k a0_0 _ _ l0_1 a1_0 _ _ l1_1 t201 _ ?side1 ?side2 ?side3 ?side4 A4.out).mono ?_); (case side1 => repeat (first | exact (Kd.C_below HR0_1.out HB.out) | (with_reducible refine Kd.C_alloc ?_ _) | (with_reducible refine Kd.C_drewN ?_ _) | (with_reducible refine Kd.C_drew ?_))); (case side2 => exact HC0_1.out); (case side3 => repeat (first | exact (Kd.C_below HR1_1.out HB.out) | (with_reducible refine Kd.C_alloc ?_ _) | (with_reducible refine Kd.C_drewN ?_ _) | (with_reducible refine Kd.C_drew ?_))); (case side4 => exact HC1_1.out); rintro e w46 ⟨rfl, hb⟩; refine ⟨_, rfl, ?_⟩; replace BK198 := bb BK198 hb; replace BK199 := bb BK199 hb; replace BK200 := bb BK200 hb; replace HB := hs HB hb; (try clear hb)) | ((with_reducible refine gate_callee (f := 77) rfl ?_); refine gl (some 20) Try.func77 #[.int .i64 a2, .int .i64 (-1000), .int .i64 1000] ?_; (with_reducible refine (impl_within.calls a2 (-1000) 1000 false _ A6.out).mono ?_); rintro e w' ⟨rfl, ⟨nd, rfl⟩⟩; refine ⟨_, rfl, ?_⟩; (try (rw [drewN_self w46]; generalize hq_ : World.drewN w46 _ = w46; have n0_ : Aside0 (w46.heap[gb198]? = some (.cells #[.int .i64 a0_0, .slice A0_1 l0_1.length c0_1] 24 (0, 0))) := ⟨by rw [← hq_]; exact (pk BK198.out)⟩; have n1_ : Aside0 (w46.heap[gb199]? = some (.cells #[.int .i64 a1_0, .slice A1_1 l1_1.length c1_1] 24 (0, 0))) := ⟨by rw [← hq_]; exact (pk BK199.out)⟩; have n2_ : Aside0 (w46.heap[gb200]? = some (.cells #[.int .i64 0, .slice none 0 0] 24 (0, 0))) := ⟨by rw [← hq_]; exact (pk BK200.out)⟩; have n3_ : Aside0 (Below w.heap.size w w46) := ⟨by rw [← hq_]; exact (bks HB.out)⟩; clear BK198 BK199 BK200 HB hq_; have BK198 := n0_; have BK199 := n1_; have BK200 := n2_; have HB := n3_; clear n0_ n1_ n2_ n3_)); have hcz47_0 : w46.cell? ⟨gb200, 0, none⟩ = some (.int .i64 0) := (blk_cell BK200.out 0).trans rfl; have hcz47_1 : w46.cell? ⟨gb200, 1, none⟩ = some (.slice none 0 0) := (blk_cell BK200.out 1).trans rfl; have hfz47_0 := blk_frozen BK200.out 0; have hfz47_1 := blk_frozen BK200.out 1))
   refine bodyPost_ret (results_ct rfl _ _ gb200 24 #[.int .i64 0, .slice none 0 0] (0, 0) _ rfl (by (with_reducible repeat (first | refine blk_drewN ?_ _ | refine blk_drew ?_ | refine blk_alloc ?_ _)); refine blk_put (cs := #[.int .i64 0, .slice none 0 0]) ?_ 1 _ rfl; (with_reducible repeat (first | refine blk_drewN ?_ _ | refine blk_drew ?_ | refine blk_alloc ?_ _)); refine blk_put (cs := #[.int .i64 0, .slice none 0 0]) ?_ 0 _ rfl; (with_reducible repeat (first | refine blk_drewN ?_ _ | refine blk_drew ?_ | refine blk_alloc ?_ _)); exact BK200.out) Try.underlying24 rfl (by kernel_rfl)) rfl ?_
   exact ⟨_, by first | rfl | (simp [errW_none, errW_some] <;> rfl) | (simp [*, errW_none, errW_some] <;> rfl), by first | exact Kd.R_nil _ _ _ _ _ | exact Kd.N_nil _ _ _ _ _ | exact Kd.V_nil _ _ _ _ _ | exact Kd.Q_nil _ _ _ _ _ | exact Kd.S_nil _ _ _ _ _, bks HB.out⟩
 ·rw [if_neg c5] at H
  have c5b0 : (t201 == 0) = false := beq_eq_false_iff_ne.mpr c5
  have c5b1 : (t201 != 0) = true := bne_iff_ne.mpr c5
  simp only [Option.some.injEq, Prod.mk.injEq] at H
  obtain ⟨rfl, rfl, rfl⟩ := H
  go_enter Try.func26, Try.ntmps26
  go_wp2_with (first | ((with_reducible refine gate_dst (N := 3) rfl ?_); refine bx 3 #[.int .i64 a0_0, .slice A0_1 l0_1.length c0_1] 24 (fun gb198 hg w48 hbox hb => ?_); have BK198 := Aside0.mk hbox; have GW198 := ge HB hg; have GE198 := GW198; replace HB := hs HB hb; clear hb hbox hg) | ((with_reducible refine gate_dst (N := 4) rfl ?_); refine bx 4 #[.int .i64 a1_0, .slice A1_1 l1_1.length c1_1] 24 (fun gb199 hg w49 hbox hb => ?_); have BK199 := Aside0.mk hbox; have GW199 := ge HB hg; have GE199 := GW199; obtain ⟨NB198_199, NB199_198⟩ := nb BK198 hg; replace BK198 := bb BK198 hb; replace HB := hs HB hb; clear hb hbox hg) | ((with_reducible refine gate_dst (N := 6) rfl ?_); refine bx 6 #[.int .i64 0, .slice none 0 0] 24 (fun gb200 hg w50 hbox hb => ?_); have BK200 := Aside0.mk hbox; have GW200 := ge HB hg; have GE200 := GW200; obtain ⟨NB198_200, NB200_198⟩ := nb BK198 hg; obtain ⟨NB199_200, NB200_199⟩ := nb BK199 hg; replace BK198 := bb BK198 hb; replace BK199 := bb BK199 hb; replace HB := hs HB hb; clear hb hbox hg; have hnb51 := NB198_199.out; have hnc51 := NB199_198.out; have hnb52 := NB198_200.out; have hnc52 := NB200_198.out; have hcz53_0 : w50.cell? ⟨gb198, 0, none⟩ = some (.int .i64 a0_0) := (blk_cell BK198.out 0).trans rfl; have hcz53_1 : w50.cell? ⟨gb198, 1, none⟩ = some (.slice A0_1 l0_1.length c0_1) := (blk_cell BK198.out 1).trans rfl; have hfz53_0 := blk_frozen BK198.out 0; have hfz53_1 := blk_frozen BK198.out 1; have hnb54 := NB199_200.out; have hnc54 := NB200_199.out; have hcz55_0 : w50.cell? ⟨gb199, 0, none⟩ = some (.int .i64 a1_0) := (blk_cell BK199.out 0).trans rfl; have hcz55_1 : w50.cell? ⟨gb199, 1, none⟩ = some (.slice A1_1 l1_1.length c1_1) := (blk_cell BK199.out 1).trans rfl; have hfz55_0 := blk_frozen BK199.out 0; have hfz55_1 := blk_frozen BK199.out 1) | ((with_reducible refine gate_callee (f := 76) rfl ?_); refine gl (some 14) Try.func76 #[.agg #[.int .i64 a0_0, .slice A0_1 l0_1.length c0_1], .agg #[.int .i64 a1_0, .slice A1_1 l1_1.length c1_1]] ?_; (with_reducible refine (impl_ringCode.calls k a0_0 _ _ l0_1 a1_0 _ _ l1_1 t201 _ ?side1 ?side2 ?side3 ?side4 A4.out).mono ?_); (case side1 => repeat (first | exact (Kd.C_below HR0_1.out HB.out) | (with_reducible refine Kd.C_alloc ?_ _) | (with_reducible refine Kd.C_drewN ?_ _) | (with_reducible refine Kd.C_drew ?_))); (case side2 => exact HC0_1.out); (case side3 => repeat (first | exact (Kd.C_below HR1_1.out HB.out) | (with_reducible refine Kd.C_alloc ?_ _) | (with_reducible refine Kd.C_drewN ?_ _) | (with_reducible refine Kd.C_drew ?_))); (case side4 => exact HC1_1.out); rintro e w56 ⟨rfl, hb⟩; refine ⟨_, rfl, ?_⟩; replace BK198 := bb BK198 hb; replace BK199 := bb BK199 hb; replace BK200 := bb BK200 hb; replace HB := hs HB hb; (try clear hb); have hcz57_0 : w56.cell? ⟨gb200, 0, none⟩ = some (.int .i64 0) := (blk_cell BK200.out 0).trans rfl; have hcz57_1 : w56.cell? ⟨gb200, 1, none⟩ = some (.slice none 0 0) := (blk_cell BK200.out 1).trans rfl; have hfz57_0 := blk_frozen BK200.out 0; have hfz57_1 := blk_frozen BK200.out 1))
  refine bodyPost_ret (results_ct rfl _ _ gb200 24 #[.int .i64 0, .slice none 0 0] (0, 0) _ rfl (by (with_reducible repeat (first | refine blk_drewN ?_ _ | refine blk_drew ?_ | refine blk_alloc ?_ _)); refine blk_put (cs := #[.int .i64 0, .slice none 0 0]) ?_ 1 _ rfl; (with_reducible repeat (first | refine blk_drewN ?_ _ | refine blk_drew ?_ | refine blk_alloc ?_ _)); refine blk_put (cs := #[.int .i64 0, .slice none 0 0]) ?_ 0 _ rfl; (with_reducible repeat (first | refine blk_drewN ?_ _ | refine blk_drew ?_ | refine blk_alloc ?_ _)); exact BK200.out) Try.underlying24 rfl (by kernel_rfl)) rfl ?_
  exact ⟨_, by first | rfl | (simp [errW_none, errW_some] <;> rfl) | (simp [*, errW_none, errW_some] <;> rfl), by first | exact Kd.R_nil _ _ _ _ _ | exact Kd.N_nil _ _ _ _ _ | exact Kd.V_nil _ _ _ _ _ | exact Kd.Q_nil _ _ _ _ _ | exact Kd.S_nil _ _ _ _ _, bks HB.out⟩

end Go.Proofs.Ythkdkiifchefhaa.PFnRings
