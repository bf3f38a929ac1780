-- LAID BY pp.py (a program of this repo): what the kit's print tells of this seat's functions, with contracts by hand
import Derived.Test.YtdnpkbhapdkikaaZPFnExactActOnCyclox0
import Derived.Test.YtdnpkbhapdkikaaZPFnExactActOnCyclox2
namespace Go.Proofs.Ytdnpkbhapdkikaa.PFnExactActOnCyclo
open Go.RowKit Go.Proofs.YtdnpkbhapdkikaaW.PrintWords Go.Proofs.YtdnpkbhapdkikaaW.PrintLast Go.Proofs.YtdnpkbhapdkikaaW.PrintMore
attribute [local go_sem] max2_int min2_int max_two min_two max_three min_three max_four min_four   -- for this text's walks alone
set_option linter.unusedVariables false
set_option linter.unusedSimpArgs false

/-! ### spec_l01Reduce: function 174 -/
mutual
def spec_l01Reduce.l0 : Nat → Int → List Int → List Int → Int → Int → Option (Int × List Int)
 | 0, _, _, _, _, _ => none
 | k + 1, x0, x5, x6, x7, x8 => if x8 ≥ x7 then (if 0 ≤ x8 then (if x8 < (x6.length : Int) then (spec_l01Reduce.l1 k x0 x5 x6 x7 x8 (rd x6 x8) 0) else (none)) else (none)) else ((spec_l01Zero.f k x0).bind fun bt174 => (spec_l01Reduce.l2 k x6 x7 0 bt174.1 bt174.2))
def spec_l01Reduce.l1 : Nat → Int → List Int → List Int → Int → Int → Int → Int → Option (Int × List Int)
 | 0, _, _, _, _, _, _, _ => none
 | k + 1, x0, x5, x6, x7, x8, x9, x10 => if x10 ≤ x7 then (if 0 ≤ (wrap64 ((wrap64 (x8 - x7)) + x10)) then (if (wrap64 ((wrap64 (x8 - x7)) + x10)) < (x6.length : Int) then (if 0 ≤ x10 then (if x10 < (x5.length : Int) then (spec_l01Reduce.l1 k x0 x5 (x6.set ((wrap64 ((wrap64 (x8 - x7)) + x10)) : Int).toNat (wrap64 ((rd x6 (wrap64 ((wrap64 (x8 - x7)) + x10))) - (wrap64 (x9 * (rd x5 x10)))))) x7 x8 x9 (wrap64 (x10 + 1))) else (none)) else (none)) else (none)) else (none)) else (spec_l01Reduce.l0 k x0 x5 x6 x7 (wrap64 (x8 - 1)))
def spec_l01Reduce.l2 : Nat → List Int → Int → Int → Int → List Int → Option (Int × List Int)
 | 0, _, _, _, _, _ => none
 | k + 1, x6, x7, x12, x179000, x179001 => if x12 < x7 then (if x12 < (x6.length : Int) then (if 0 ≤ x12 then (if x12 < (x179001.length : Int) then (spec_l01Reduce.l2 k x6 x7 (wrap64 (x12 + 1)) x179000 (x179001.set (x12 : Int).toNat (rd x6 x12))) else (none)) else (none)) else (some (x179000, x179001))) else (some (x179000, x179001))
end
def spec_l01Reduce.f (k : Nat) (a0 : Int) (l1 : List Int) : Option (Int × List Int) := (spec_l01Cyclotomic.f k a0).bind fun t164 => ((spec_l01Own.f l1).bind fun t167 => (spec_l01Reduce.l0 k a0 t164 t167 (wrap64 ((t164.length : Int) - 1)) (wrap64 ((t167.length : Int) - 1))))
theorem spec_l01Reduce.mono_l : ∀ k, (∀ y0 y1 y2 y3 y4, LeO (spec_l01Reduce.l0 k y0 y1 y2 y3 y4) (spec_l01Reduce.l0 (k + 1) y0 y1 y2 y3 y4)) ∧ (∀ y0 y1 y2 y3 y4 y5 y6, LeO (spec_l01Reduce.l1 k y0 y1 y2 y3 y4 y5 y6) (spec_l01Reduce.l1 (k + 1) y0 y1 y2 y3 y4 y5 y6)) ∧ (∀ y0 y1 y2 y3 y4, LeO (spec_l01Reduce.l2 k y0 y1 y2 y3 y4) (spec_l01Reduce.l2 (k + 1) y0 y1 y2 y3 y4))
 | 0 => ⟨fun _ _ _ _ _ r h => by simp [spec_l01Reduce.l0] at h, fun _ _ _ _ _ _ _ r h => by simp [spec_l01Reduce.l1] at h, fun _ _ _ _ _ r h => by simp [spec_l01Reduce.l2] at h⟩
 | k + 1 => by
  obtain ⟨ih0, ih1, ih2⟩ := spec_l01Reduce.mono_l k
  refine ⟨?_, ?_, ?_⟩
  ·intro y0 y1 y2 y3 y4
   unfold spec_l01Reduce.l0
   repeat' first | (with_reducible first | exact ih0 _ _ _ _ _ | exact ih1 _ _ _ _ _ _ _ | exact ih2 _ _ _ _ _ | exact spec_l01Cyclotomic.mono _ _ | exact spec_l01Zero.mono _ _ | exact LeO.refl _ | exact LeO.none _ | refine LeO.ite ?_ ?_ | refine LeO.bind ?_ (fun _ => ?_)) | exact ih0 _ _ _ _ _ | exact ih1 _ _ _ _ _ _ _ | exact ih2 _ _ _ _ _ | exact LeO.none _ | refine LeO.ite ?_ ?_ | refine LeO.bind ?_ (fun _ => ?_)
  ·intro y0 y1 y2 y3 y4 y5 y6
   unfold spec_l01Reduce.l1
   repeat' first | (with_reducible first | exact ih0 _ _ _ _ _ | exact ih1 _ _ _ _ _ _ _ | exact ih2 _ _ _ _ _ | exact spec_l01Cyclotomic.mono _ _ | exact spec_l01Zero.mono _ _ | exact LeO.refl _ | exact LeO.none _ | refine LeO.ite ?_ ?_ | refine LeO.bind ?_ (fun _ => ?_)) | exact ih0 _ _ _ _ _ | exact ih1 _ _ _ _ _ _ _ | exact ih2 _ _ _ _ _ | exact LeO.none _ | refine LeO.ite ?_ ?_ | refine LeO.bind ?_ (fun _ => ?_)
  ·intro y0 y1 y2 y3 y4
   unfold spec_l01Reduce.l2
   repeat' first | (with_reducible first | exact ih0 _ _ _ _ _ | exact ih1 _ _ _ _ _ _ _ | exact ih2 _ _ _ _ _ | exact spec_l01Cyclotomic.mono _ _ | exact spec_l01Zero.mono _ _ | exact LeO.refl _ | exact LeO.none _ | refine LeO.ite ?_ ?_ | refine LeO.bind ?_ (fun _ => ?_)) | exact ih0 _ _ _ _ _ | exact ih1 _ _ _ _ _ _ _ | exact ih2 _ _ _ _ _ | exact LeO.none _ | refine LeO.ite ?_ ?_ | refine LeO.bind ?_ (fun _ => ?_)
theorem spec_l01Reduce.mono : ∀ a0 a1 k, LeO (spec_l01Reduce.f k a0 a1) (spec_l01Reduce.f (k + 1) a0 a1) := by
 intro a0 a1 k
 obtain ⟨ih0, ih1, ih2⟩ := spec_l01Reduce.mono_l k
 unfold spec_l01Reduce.f
 repeat' first | (with_reducible first | exact ih0 _ _ _ _ _ | exact ih1 _ _ _ _ _ _ _ | exact ih2 _ _ _ _ _ | exact spec_l01Cyclotomic.mono _ _ | exact spec_l01Zero.mono _ _ | exact LeO.refl _ | exact LeO.none _ | refine LeO.ite ?_ ?_ | refine LeO.bind ?_ (fun _ => ?_)) | exact ih0 _ _ _ _ _ | exact ih1 _ _ _ _ _ _ _ | exact ih2 _ _ _ _ _ | exact LeO.none _ | refine LeO.ite ?_ ?_ | refine LeO.bind ?_ (fun _ => ?_)
def spec_l01Reduce.T10 : Bool × List (List Nat × List Nat) := (true, [([], []), ([], []), ([], []), ([1, 2], [1, 2]), ([], []), ([3, 4], [3, 4]), ([], []), ([], []), ([], []), ([7, 8], [7, 8]), ([], []), ([9, 10], [9, 10]), ([6, 11], [6, 11]), ([12], [12]), ([], []), ([], []), ([], []), ([15, 16], [15, 16]), ([17], [17]), ([14, 18], [14, 18]), ([13, 19], [13, 19]), ([0, 5, 0, 1, 2, 3, 4, 5, 6, 7, 8, 9, 10, 11, 12, 13, 14, 15, 16, 17, 18, 19, 20], [0, 5]), ([21, 20, 0, 1, 2, 3, 4, 5, 6, 7, 8, 9, 10, 11, 12, 13, 14, 15, 16, 17, 18, 19, 20], [20, 21])])
def spec_l01Reduce.B10 : List Nat := [0, 0, 0, 6, 0, 30, 0, 0, 0, 384, 0, 1920, 4032, 8128, 0, 0, 0, 98304, 229376, 507904, 1048512, 2097151, 4194303]
theorem spec_l01Reduce.tab10 : rtab .any (opsOf Try.f174 10) = spec_l01Reduce.T10 := by kernel_rfl
theorem spec_l01Reduce.bits10 : waitsOk spec_l01Reduce.T10.2 spec_l01Reduce.B10 = true := by kernel_rfl
def spec_l01Reduce.T15 : Bool × List (List Nat × List Nat) := (true, [([], []), ([0], [0]), ([], []), ([], []), ([], []), ([3, 4], [3, 4]), ([5], [5]), ([1, 2, 0, 1, 2, 3, 4, 5, 6], [1, 2]), ([7, 6, 0, 1, 2, 3, 4, 5, 6], [6, 7])])
def spec_l01Reduce.B15 : List Nat := [0, 1, 0, 0, 0, 24, 56, 127, 255]
theorem spec_l01Reduce.tab15 : rtab .any (opsOf Try.f174 15) = spec_l01Reduce.T15 := by kernel_rfl
theorem spec_l01Reduce.bits15 : waitsOk spec_l01Reduce.T15.2 spec_l01Reduce.B15 = true := by kernel_rfl
set_option maxHeartbeats 8000000 in
set_option maxRecDepth 100000 in
theorem spec_l01Reduce.calls (k : Nat) (a0 : Int) (A1 : Option Addr) (c1 : Nat) (l1 : List Int) (r1 : Int) (r2 : List Int) (w : World) (hr1 : Kd.C (Kd.int .i64) w A1 l1.length l1) (hc1 : l1.length ≤ c1) (h : spec_l01Reduce.f k a0 l1 = some (r1, r2)) :
  Calls Try.prog 174 #[.int .i64 a0, .slice A1 l1.length c1] w fun e w' => ∃ v1_ : Value, e = .returned (.agg #[.int .i64 r1, v1_]) ∧ Kd.R (Kd.int .i64) 2 w' w.heap.size (fun _ => True) v1_ r2 ∧ Below w.heap.size w w' := by
 have hu29 := Try.underlying29
 have HR1 := Aside0.mk hr1
 have HC1 := Aside0.mk hc1
 clear hr1 hc1
 have HB := Aside0.mk (Below.refl w.heap.size w)
 have H := h
 unfold spec_l01Reduce.f at H
 clear h
 replace H := Option.bind_eq_some_iff.mp H
 obtain ⟨t164, A30, H⟩ := H
 try dsimp only at H
 have A3 := Aside0.mk A30
 clear A30
 replace H := Option.bind_eq_some_iff.mp H
 obtain ⟨t167, A40, H⟩ := H
 try dsimp only at H
 have A4 := Aside0.mk A40
 clear A40
 have H' := Aside0.mk H
 clear H
 go_enter Try.func174, Try.ntmps174
 go_wp2_with (first | ((with_reducible refine gate_dst (N := 4) rfl ?_); (try (refine gate_guard (by rfl) ?_; dsimp only)); refine bx 4 #[.int .i64 0, .slice none 0 0] 29 (fun gb163 hg w5 hbox hb => ?_); have BK163 := Aside0.mk hbox; have GW163 := ge HB hg; have GE163 := GW163; replace HB := hs HB hb; clear hb hbox hg) | ((with_reducible refine gate_callee (f := 192) rfl ?_); refine gl (some 14) Try.func192 #[.int .i64 a0] ?_; (with_reducible refine (spec_l01Cyclotomic.calls k a0 t164 _ A3.out).mono ?_); rintro e w6 ⟨v165, rfl, ho0, hb⟩; refine ⟨_, rfl, ?_⟩; have HO166 := Aside0.mk (Kd.R_lower ho0 (below_size (bks HB.out))); replace BK163 := bb BK163 hb; replace HB := hs HB hb; (try clear hb ho0)) | ((with_reducible refine gate_callee (f := 183) rfl ?_); refine gl (some 16) Try.func183 #[.slice A1 l1.length c1] ?_; (with_reducible refine (spec_l01Own.calls _ _ l1 t167 _ ?side1 ?side2 A4.out).mono ?_); (case side1 => repeat (first | exact (Kd.C_below HR1.out HB.out) | (with_reducible refine Kd.C_alloc ?_ _) | (with_reducible refine Kd.C_drewN ?_ _) | (with_reducible refine Kd.C_drew ?_))); (case side2 => exact HC1.out); rintro e w7 ⟨v168, rfl, ho0, hb⟩; refine ⟨_, rfl, ?_⟩; have HO169 := Aside0.mk (Kd.R_lower (Kd.R_new' ho0 (Kd.R_lt (rk HO166.out))) (below_size (bks HB.out))); replace HO166 := re HO166 ho0 hb; replace BK163 := bb BK163 hb; replace HB := hs HB hb; (try clear hb ho0); obtain ⟨Ao8, co8, eo8⟩ := Kd.R_slice HO166.out; subst eo8; obtain ⟨Ao9, co9, eo9⟩ := Kd.R_slice HO169.out; subst eo9))
 go_loopg [8] k (fun kq v8 w' => ∃ (x6_1 : List Int) (x8_1 : Int), v8 = .int .i64 x8_1 ∧ Aside0 (spec_l01Reduce.l0 kq a0 t164 x6_1 (wrap64 ((t164.length : Int) - 1)) x8_1 = some (r1, r2)) ∧ Aside0 (kq ≤ k) ∧ Aside0 (Kd.R (Kd.int .i64) 2 w' w.heap.size (fun k_ => some k_ ≠ ((.slice Ao9 t167.length co9) : Value).ownBlock) (.slice Ao8 t164.length co8) t164) ∧ Aside0 (Kd.R (Kd.int .i64) 2 w' w.heap.size (fun k_ => some k_ ≠ ((.slice Ao8 t164.length co8) : Value).ownBlock) (.slice Ao9 t167.length co9) x6_1) ∧ Aside0 (w'.heap[gb163]? = some (.cells #[.int .i64 0, (.slice none 0 0)] 29 (0, 0))) ∧ Aside0 (Below w.heap.size w w'))
 case atStart => exact ⟨(t167), (wrap64 ((t167.length : Int) - 1)), (by first | rfl | (simp; done) | (simp [*]; done)), H', ⟨Nat.le_refl _⟩, ⟨rk (Kd.R_mono HO166.out (fun _ hk => hk.2))⟩, ⟨rk (Kd.R_mono HO169.out (fun _ hk => hk.2))⟩, ⟨pk BK163.out⟩, ⟨bks HB.out⟩⟩
 case round =>
  clear H'
  try clear c1; try clear p2; try clear p6
  obtain ⟨x6_1, x8_1, rfl, HA, HK1, HO_5, HO_6, BK163, HB⟩ := hrel
  have hl6_1 := (Kd.R_reads' HO_6.out).1
  rw [hl6_1] at HO_6
  (try simp only [hl6_1])
  (try simp only [hl6_1] at BK163)
  (try simp only [hl6_1] at HO_5)
  cases gk with
  | zero => exact absurd HA.out (by simp [spec_l01Reduce.l0])
  | succ k1 =>
   have H := HA.out
   clear HA
   simp only [spec_l01Reduce.l0] at H
   by_cases c10 : x8_1 ≥ (wrap64 ((t164.length : Int) - 1))
   ·rw [if_pos c10] at H
    have c10b0 : decide ((wrap64 ((t164.length : Int) - 1)) ≤ x8_1) = true := decide_eq_true c10
    clear c10
    by_cases c11 : 0 ≤ x8_1
    rotate_left
    ·rw [if_neg c11] at H; exact absurd H (by simp)
    rw [if_pos c11] at H
    have c11b0 : decide (0 ≤ x8_1) = true := decide_eq_true c11
    clear c11
    by_cases c12 : x8_1 < (x6_1.length : Int)
    rotate_left
    ·rw [if_neg c12] at H; exact absurd H (by simp)
    rw [if_pos c12] at H
    have c12b0 : decide (x8_1 < (x6_1.length : Int)) = true := decide_eq_true c12
    clear c12
    have H' := Aside0.mk H
    clear H
    have p170 : 0 ≤ (x8_1 : Int) := of_decide_eq_true (by first | (with_reducible assumption) | assumption)
    have q170 : x8_1 < (x6_1.length : Int) := of_decide_eq_true (by first | (with_reducible assumption) | assumption)
    try (obtain ⟨Aw_, cw_, ew_⟩ := Kd.R_slice HO_6.out; subst ew_)
    obtain ⟨ad170, e170, hx170_0⟩ := Kd.at_int (Kd.R_reads' HO_6.out).2.2 x8_1 p170 q170
    cases e170
    replace p170 := eq_true p170
    replace q170 := eq_true q170
    go_wp2
    go_loopg [10] k1 (fun kq v10 w' => ∃ (x6_2 : List Int) (x10_2 : Int), v10 = .int .i64 x10_2 ∧ Aside0 (spec_l01Reduce.l1 kq a0 t164 x6_2 (wrap64 ((t164.length : Int) - 1)) x8_1 (rd x6_1 x8_1) x10_2 = some (r1, r2)) ∧ Aside0 (kq ≤ k1) ∧ Aside0 (Kd.R (Kd.int .i64) 2 w' w.heap.size (fun k_ => some k_ ≠ ((.slice (some ad170) x6_1.length co9) : Value).ownBlock) (.slice Ao8 t164.length co8) t164) ∧ Aside0 (Kd.R (Kd.int .i64) 2 w' w.heap.size (fun k_ => some k_ ≠ ((.slice Ao8 t164.length co8) : Value).ownBlock) (.slice (some ad170) x6_1.length co9) x6_2) ∧ Aside0 (w'.heap[gb163]? = some (.cells #[.int .i64 0, (.slice none 0 0)] 29 (0, 0))) ∧ Aside0 (Below w.heap.size w w'))
    case atStart => exact ⟨(x6_1), (0), (by first | rfl | (simp; done) | (simp [*]; done)), H', ⟨Nat.le_refl _⟩, ⟨by (try simp only [hl6_1]); (with_reducible repeat (first | apply Kd.R_alloc | apply Kd.R_drewN | apply Kd.R_drew)); exact HO_5.out⟩, ⟨by (try simp only [hl6_1]); (with_reducible repeat (first | apply Kd.R_alloc | apply Kd.R_drewN | apply Kd.R_drew)); exact HO_6.out⟩, ⟨by (try simp only [hl6_1]); (with_reducible repeat (first | refine blk_drewN ?_ _ | refine blk_drew ?_ | refine blk_alloc ?_ _)); exact BK163.out⟩, ⟨bks HB.out⟩⟩
    case round =>
     clear H'
     try clear c1; try clear p1; try clear q1; try clear hx1; try clear p2; try clear p6; try clear c10; try clear c10b0; try clear c11; try clear c11b0; try clear c12; try clear c12b0; try clear hx170_0; try clear p170; try clear p2; try clear p6; try clear q170
     obtain ⟨x6_2, x10_2, rfl, HA, HK2, HO_5, HO_6, BK163, HB⟩ := hrel
     have hl6_2 := (Kd.R_reads' HO_6.out).1
     rw [hl6_2] at HO_6
     (try simp only [hl6_2])
     (try simp only [hl6_2] at BK163)
     (try simp only [hl6_2] at HO_5)
     cases gk with
     | zero => exact absurd HA.out (by simp [spec_l01Reduce.l1])
     | succ k2 =>
      have H := HA.out
      clear HA
      simp only [spec_l01Reduce.l1] at H
      by_cases c13 : x10_2 ≤ (wrap64 ((t164.length : Int) - 1))
      ·rw [if_pos c13] at H
       have c13b0 : decide (x10_2 ≤ (wrap64 ((t164.length : Int) - 1))) = true := decide_eq_true c13
       clear c13
       obtain ⟨ji14, hji14⟩ : ∃ j_ : Int, (wrap64 ((wrap64 (x8_1 - (wrap64 ((t164.length : Int) - 1)))) + x10_2)) = j_ := ⟨_, rfl⟩
       replace H : (if 0 ≤ (ji14) then (if (ji14) < (x6_2.length : Int) then (if 0 ≤ x10_2 then (if x10_2 < (t164.length : Int) then (spec_l01Reduce.l1 k2 a0 t164 (x6_2.set ((ji14) : Int).toNat (wrap64 ((rd x6_2 (ji14)) - (wrap64 ((rd x6_1 x8_1) * (rd t164 x10_2)))))) (wrap64 ((t164.length : Int) - 1)) x8_1 (rd x6_1 x8_1) (wrap64 (x10_2 + 1))) else (none)) else (none)) else (none)) else (none)) = some (r1, r2) := by first | (rw [hji14] at H; exact H) | (simp only [hji14] at H ⊢; exact H)
       have hji14w : (IntKind.i64.wrap ((wrap64 (x8_1 - (wrap64 ((t164.length : Int) - 1)))) + x10_2)) = ji14 := (i64_w _).trans hji14
       by_cases c15 : 0 ≤ (ji14)
       rotate_left
       ·rw [if_neg c15] at H; exact absurd H (by simp)
       rw [if_pos c15] at H
       have c15b0 : decide (0 ≤ (ji14)) = true := decide_eq_true c15
       clear c15
       by_cases c16 : (ji14) < (x6_2.length : Int)
       rotate_left
       ·rw [if_neg c16] at H; exact absurd H (by simp)
       rw [if_pos c16] at H
       have c16b0 : decide ((ji14) < (x6_2.length : Int)) = true := decide_eq_true c16
       clear c16
       by_cases c17 : 0 ≤ x10_2
       rotate_left
       ·rw [if_neg c17] at H; exact absurd H (by simp)
       rw [if_pos c17] at H
       have c17b0 : decide (0 ≤ x10_2) = true := decide_eq_true c17
       clear c17
       by_cases c18 : x10_2 < (t164.length : Int)
       rotate_left
       ·rw [if_neg c18] at H; exact absurd H (by simp)
       rw [if_pos c18] at H
       have c18b0 : decide (x10_2 < (t164.length : Int)) = true := decide_eq_true c18
       clear c18
       obtain ⟨y173, hy173⟩ : ∃ y_ : List Int, y_ = (x6_2.set ((ji14) : Int).toNat (wrap64 ((rd x6_2 (ji14)) - (wrap64 ((rd x6_1 x8_1) * (rd t164 x10_2)))))) := ⟨_, rfl⟩
       replace H : (spec_l01Reduce.l1 k2 a0 t164 y173 (wrap64 ((t164.length : Int) - 1)) x8_1 (rd x6_1 x8_1) (wrap64 (x10_2 + 1))) = some (r1, r2) := by first | (rw [hy173]; with_reducible exact H) | (have H2_ := (Option.bind_some _ _).symm.trans H; rw [hy173]; with_reducible exact H2_) | (have H2_ := (Option.bind_some _ _).symm.trans H; with_reducible exact H2_) | with_reducible exact H | (rw [hy173]; exact H) | exact H
       have Ny173 := Aside0.mk hy173
       clear hy173
       have H' := Aside0.mk H
       clear H
       try go_wp2
       replace HO_5 := rd0 HO_5
       replace HO_6 := rd0 HO_6
       replace BK163 := bd BK163
       replace HB := hd0 HB
       have p171 : 0 ≤ ((ji14) : Int) := of_decide_eq_true (by first | (with_reducible assumption) | assumption)
       have q171 : (ji14) < (x6_2.length : Int) := of_decide_eq_true (by first | (with_reducible assumption) | assumption)
       try (obtain ⟨Aw_, cw_, ew_⟩ := Kd.R_slice HO_6.out; subst ew_)
       obtain ⟨ad171, e171, hx171_0⟩ := Kd.at_int (Kd.R_reads' HO_6.out).2.2 (ji14) p171 q171
       obtain rfl : ad170 = ad171 := (by injection e171)
       replace p171 := eq_true p171
       replace q171 := eq_true q171
       have p172 : 0 ≤ (x10_2 : Int) := of_decide_eq_true (by first | (with_reducible assumption) | assumption)
       have q172 : x10_2 < (t164.length : Int) := of_decide_eq_true (by first | (with_reducible assumption) | assumption)
       try (obtain ⟨Aw_, cw_, ew_⟩ := Kd.R_slice HO_5.out; subst ew_)
       obtain ⟨ad172, e172, hx172_0⟩ := Kd.at_int (Kd.R_reads' HO_5.out).2.2 x10_2 p172 q172
       cases e172
       replace p172 := eq_true p172
       replace q172 := eq_true q172
       have p19 : 0 ≤ ((ji14) : Int) := of_decide_eq_true (by first | (with_reducible assumption) | assumption)
       have q19 : ((ji14) : Int) < ((x6_2.length : Int) : Int) := of_decide_eq_true (by first | (with_reducible assumption) | assumption)
       obtain ⟨go19, co19, eo19, gb19, gl19, cl19, HG19⟩ := Kd.R_form HO_6.out (by omega)
       (first | cases eo19 | (injection eo19 with ea_ en_ ec_; (first | subst ea_ | (injection ea_ with ea_; subst ea_)); subst ec_; clear en_))
       try simp only [add_plain] at *
       have GB19 := Aside0.mk gb19
       have GG19 := Aside0.mk HG19
       clear gb19 gl19 HG19
       (first | simp only [add_plain] at hx170_0 | skip)
       (first | simp only [add_plain] at hx171_0 | skip)
       obtain ⟨hx19_0, hf19_0⟩ := Kd.R_celln 0 HO_6.out ((ji14) : Int) p19 q19
       replace p19 := eq_true p19
       replace q19 := eq_true q19
       have HP21 := Kd.R_putn HO_6.out ((ji14) : Int) (wrap64 ((rd x6_2 (ji14)) - (wrap64 ((rd x6_1 x8_1) * (rd t164 x10_2)))))
       rw [← Ny173.out] at HP21
       have HQ21 := Aside0.mk HP21
       clear HP21
       refine start_ (n := 23) (S := fun w' => w'.cell? ⟨go19, ((ji14)).toNat, none⟩ = some (.int .i64 (rd x6_2 (ji14))) ∧ w'.cell? (ad172.add (x10_2).toNat) = some (.int .i64 (rd t164 x10_2))) (ds := [22]) #[false, false, false, false, false, false, false, false, false, false, false, false, false, false, false, false, false, false, false, false, false, false, false] (by kernel_rfl) rfl rfl ⟨hx171_0, hx172_0⟩ (fun hHeld => ?_); refine with_tabW spec_l01Reduce.tab10 spec_l01Reduce.bits10 (fun HT_ HW_ => ?_)
       generalize wr.drew = w20 at HO_5 HO_6 BK163 HB GG19 HQ21 hf19_0 hx170_0 hx171_0 hx172_0 hx19_0 hHeld ⊢
       refine pu 0 (some 37) HT_ ?_
       refine pu 1 (some 38) HT_ ?_
       refine pu 2 (some 39) HT_ ?_
       refine pu 3 (some 40) HT_ ?_
       refine pu 4 (some 41) HT_ ?_
       refine pu 5 (some 42) HT_ ?_
       refine pu 6 (some 43) HT_ ?_
       refine pu 7 (some 44) HT_ ?_
       refine pu 8 (some 45) HT_ ?_
       refine pu 9 (some 46) HT_ ?_
       refine pu 10 (some 47) HT_ ?_
       refine pu 11 (some 48) HT_ ?_
       refine pu 12 (some 49) HT_ ?_
       refine pu 14 (some 51) HT_ ?_
       refine pu 15 (some 52) HT_ ?_
       refine pu 16 (some 53) HT_ ?_
       refine pu 17 (some 54) HT_ ?_
       refine tk 13 (some 50) HT_ HW_ hHeld ?_ (hy := by rintro w' ⟨s0, s1⟩; go_simp; with_reducible rfl)
       refine tk 18 (some 55) HT_ HW_ hHeld ?_ (hy := by rintro w' ⟨s0, s1⟩; go_simp; with_reducible rfl)
       refine pu 19 (some 56) HT_ ?_
       refine pu 20 (some 57) HT_ ?_
       refine pu 21 (some 58) HT_ ?_
       refine la 22 none HT_ (fun K hK => ?_)
       refine skip_ (w1 := ?_) (by rfl) rfl ?_ ?_
       rotate_left
       ·go_simp
        rfl
       refine hK.out _ _ ?_
       clear hK K
       refine done_ (done_of HT_.out (by kernel_rfl)) ?_
       try go_wp2
       (try simp only [← hl6_2])
       go_roundg k2
       case measure => have := HK1.out; have := HK2.out; omega
       case rel => exact ⟨(y173), (wrap64 (x10_2 + 1)), (by first | rfl | (simp; done) | (simp [*]; done)), H', ⟨by have := HK1.out; have := HK2.out; omega⟩, ⟨by (try simp only [hl6_1]); (try simp only [hl6_2]); (with_reducible repeat (first | apply Kd.R_alloc | apply Kd.R_drewN | apply Kd.R_drew)); exact Kd.R_mono (Kd.R_far (p := ⟨go19, ((ji14) : Int).toNat, none⟩) (Kd.R_mono HO_5.out (fun k_ hk => (⟨hk, fun e_ => hk (by rw [e_]; rfl)⟩ : _ ∧ k_ ≠ go19))) (fun _ hk => hk.2) (.int .i64 (wrap64 ((rd x6_2 (ji14)) - (wrap64 ((rd x6_1 x8_1) * (rd t164 x10_2))))))) (fun _ hk => hk.1)⟩, ⟨by (try simp only [hl6_1]); (try simp only [hl6_2]); (with_reducible repeat (first | apply Kd.R_alloc | apply Kd.R_drewN | apply Kd.R_drew)); exact HQ21.out⟩, ⟨by (try simp only [hl6_1]); (try simp only [hl6_2]); (with_reducible repeat (first | refine blk_drewN ?_ _ | refine blk_drew ?_ | refine blk_alloc ?_ _)); refine blk_far ?_ (by have h_ := Kd.R_ne HO_6.out BK163.out (by decide); intro e_; exact h_ (by rw [e_]; rfl)) _; (with_reducible repeat (first | refine blk_drewN ?_ _ | refine blk_drew ?_ | refine blk_alloc ?_ _)); exact BK163.out⟩, ⟨by repeat (first | (with_reducible first | exact HB.out | apply below_alloc | apply pw_below_drewN | apply below_drew1 | refine below_set ?_ GB19.out | refine below_set ?_ GE163.out) | exact HB.out)⟩⟩
      ·rw [if_neg c13] at H
       have c13b0 : decide (x10_2 ≤ (wrap64 ((t164.length : Int) - 1))) = false := decide_eq_false c13
       clear c13
       have H' := Aside0.mk H
       clear H
       go_wp2
       (try simp only [← hl6_1, ← hl6_2])
       go_roundg k2
       case measure => have := HK1.out; have := HK2.out; omega
       case rel => exact ⟨(x6_2), (wrap64 (x8_1 - 1)), (by first | rfl | (simp; done) | (simp [*]; done)), H', ⟨by have := HK1.out; have := HK2.out; omega⟩, ⟨by (try simp only [hl6_1]); (try simp only [hl6_2]); (with_reducible repeat (first | apply Kd.R_alloc | apply Kd.R_drewN | apply Kd.R_drew)); exact HO_5.out⟩, ⟨by (try simp only [hl6_1]); (try simp only [hl6_2]); (with_reducible repeat (first | apply Kd.R_alloc | apply Kd.R_drewN | apply Kd.R_drew)); exact HO_6.out⟩, ⟨by (try simp only [hl6_1]); (try simp only [hl6_2]); (with_reducible repeat (first | refine blk_drewN ?_ _ | refine blk_drew ?_ | refine blk_alloc ?_ _)); exact BK163.out⟩, ⟨bks HB.out⟩⟩
   ·rw [if_neg c10] at H
    have c10b0 : decide ((wrap64 ((t164.length : Int) - 1)) ≤ x8_1) = false := decide_eq_false c10
    clear c10
    replace H := Option.bind_eq_some_iff.mp H
    obtain ⟨⟨t174, t175⟩, A220, H⟩ := H
    try dsimp only at H
    have A22 := Aside0.mk A220
    clear A220
    have H' := Aside0.mk H
    clear H
    go_wp2_with (first | ((with_reducible refine gate_callee (f := 148) rfl ?_); refine gl (some 60) Try.func148 #[.int .i64 a0] ?_; (with_reducible refine (spec_l01Zero.calls k1 a0 t174 t175 _ A22.out).mono ?_); rintro e w23 ⟨v176, rfl, ho0, hb⟩; refine ⟨_, rfl, ?_⟩; have HO177 := Aside0.mk (Kd.R_lower (Kd.R_new' (Kd.R_new' ho0 (Kd.R_lt (rk HO_5.out))) (Kd.R_lt (rk HO_6.out))) (below_size (bks HB.out))); replace HO_5 := re HO_5 ho0 hb; replace HO_6 := re HO_6 ho0 hb; replace BK163 := bb BK163 hb; replace HB := hs HB hb; (try clear hb ho0)) | ((with_reducible refine gate_dst (N := 11) rfl ?_); (try (refine gate_guard (by rfl) ?_; dsimp only)); refine bx 11 #[.int .i64 0, .slice none 0 0] 29 (fun gb178 hg w24 hbox hb => ?_); have BK178 := Aside0.mk hbox; have GW178 := ge HB hg; have GE178 := GW178; obtain ⟨NB163_178, NB178_163⟩ := nb BK163 hg; replace HO_5 := rb HO_5 hb; replace HO_6 := rb HO_6 hb; replace HO177 := rb HO177 hb; replace BK163 := bb BK163 hb; replace HB := hs HB hb; clear hb hbox hg; have hnb25 := NB178_163.out; have hnc25 := NB163_178.out; have hcz26_0 : w24.cell? ⟨gb178, 0, none⟩ = some (.int .i64 0) := (blk_cell BK178.out 0).trans rfl; have hcz26_1 : w24.cell? ⟨gb178, 1, none⟩ = some (.slice none 0 0) := (blk_cell BK178.out 1).trans rfl; have hfz26_0 := blk_frozen BK178.out 0; have hfz26_1 := blk_frozen BK178.out 1; obtain ⟨Ao27, co27, eo27⟩ := Kd.R_slice HO177.out; subst eo27))
    go_loopg [12] k1 (fun kq v12 w' => ∃ (x6_2 : List Int) (x12_2 : Int) (x179001_2 : List Int) (u179001 : Value), v12 = .int .i64 x12_2 ∧ Aside0 (spec_l01Reduce.l2 kq x6_2 (wrap64 ((t164.length : Int) - 1)) x12_2 t174 x179001_2 = some (r1, r2)) ∧ Aside0 (kq ≤ k1) ∧ Aside0 (Kd.R (Kd.int .i64) 2 w' w.heap.size (fun k_ => some k_ ≠ (u179001 : Value).ownBlock) (.slice Ao9 x6_1.length co9) x6_2) ∧ Aside0 (Kd.R (Kd.int .i64) 2 w' w.heap.size (fun k_ => some k_ ≠ ((.slice Ao9 x6_1.length co9) : Value).ownBlock) u179001 x179001_2) ∧ Aside0 (w'.heap[gb163]? = some (.cells #[.int .i64 0, (.slice none 0 0)] 29 (0, 0))) ∧ Aside0 (w'.heap[gb178]? = some (.cells #[.int .i64 t174, u179001] 29 (0, 0))) ∧ Aside0 (Below w.heap.size w w'))
    case atStart => exact ⟨(x6_1), (0), (t175), (.slice Ao27 t175.length co27), (by first | rfl | (simp; done) | (simp [*]; done)), H', ⟨Nat.le_refl _⟩, ⟨by (try simp only [hl6_1]); (with_reducible repeat (first | apply Kd.R_alloc | apply Kd.R_drewN | apply Kd.R_drew)); exact Kd.R_mono (Kd.R_far (p := ⟨gb178, 1, none⟩) (Kd.R_far (p := ⟨gb178, 0, none⟩) (Kd.R_types HO_6.out BK178.out (by decide)) (fun _ hk => hk.2) (.int .i64 t174)) (fun _ hk => hk.2) (.slice Ao27 t175.length co27)) (fun _ hk => hk.1.2)⟩, ⟨by (try simp only [hl6_1]); (with_reducible repeat (first | apply Kd.R_alloc | apply Kd.R_drewN | apply Kd.R_drew)); exact Kd.R_mono (Kd.R_far (p := ⟨gb178, 1, none⟩) (Kd.R_far (p := ⟨gb178, 0, none⟩) (Kd.R_types HO177.out BK178.out (by decide)) (fun _ hk => hk.2) (.int .i64 t174)) (fun _ hk => hk.2) (.slice Ao27 t175.length co27)) (fun _ hk => hk.1.2)⟩, ⟨by (try simp only [hl6_1]); (with_reducible repeat (first | refine blk_drewN ?_ _ | refine blk_drew ?_ | refine blk_alloc ?_ _)); refine blk_far ?_ NB163_178.out _; (with_reducible repeat (first | refine blk_drewN ?_ _ | refine blk_drew ?_ | refine blk_alloc ?_ _)); refine blk_far ?_ NB163_178.out _; (with_reducible repeat (first | refine blk_drewN ?_ _ | refine blk_drew ?_ | refine blk_alloc ?_ _)); exact BK163.out⟩, ⟨by (try simp only [hl6_1]); (with_reducible repeat (first | refine blk_drewN ?_ _ | refine blk_drew ?_ | refine blk_alloc ?_ _)); refine blk_put (cs := #[.int .i64 t174, .slice none 0 0]) ?_ 1 _ rfl; (with_reducible repeat (first | refine blk_drewN ?_ _ | refine blk_drew ?_ | refine blk_alloc ?_ _)); refine blk_put (cs := #[.int .i64 0, .slice none 0 0]) ?_ 0 _ rfl; (with_reducible repeat (first | refine blk_drewN ?_ _ | refine blk_drew ?_ | refine blk_alloc ?_ _)); exact BK178.out⟩, ⟨bks HB.out⟩⟩
    case round =>
     clear H'
     try clear c1; try clear p1; try clear q1; try clear hx1; try clear c2; try clear p2; try clear p6; try clear c10; try clear c10b0; try clear c11; try clear c11b0; try clear c12; try clear c12b0; try clear c13; try clear c13b0; try clear c14; try clear c15; try clear c15b0; try clear c16; try clear c16b0; try clear c17; try clear c17b0; try clear p17; try clear q17; try clear hx17; try clear c18; try clear c18b0; try clear c19; try clear p19; try clear q19; try clear hx19; try clear hf19; try clear c25; try clear hcz26_0; try clear hcz26_1; try clear hfz26_0; try clear hfz26_1; try clear hx170_0; try clear hx171_0; try clear hx172_0; try clear hx19_0; try clear p1; try clear p170; try clear p171; try clear p172; try clear p19; try clear p2; try clear p6; try clear q1; try clear q170; try clear q171; try clear q172; try clear q19
     obtain ⟨x6_2, x12_2, x179001_2, u179001, rfl, HA, HK2, HO_6, HO_179001, BK163, BK178, HB⟩ := hrel
     have hl6_2 := (Kd.R_reads' HO_6.out).1
     rw [hl6_2] at HO_6
     (try simp only [hl6_2])
     (try simp only [hl6_2] at BK163)
     (try simp only [hl6_2] at BK178)
     (try simp only [hl6_2] at HO_179001)
     cases gk with
     | zero => exact absurd HA.out (by simp [spec_l01Reduce.l2])
     | succ k2 =>
      have H := HA.out
      clear HA
      simp only [spec_l01Reduce.l2] at H
      by_cases c28 : x12_2 < (wrap64 ((t164.length : Int) - 1))
      ·rw [if_pos c28] at H
       have c28b0 : decide (x12_2 < (wrap64 ((t164.length : Int) - 1))) = true := decide_eq_true c28
       clear c28
       by_cases c29 : x12_2 < (x6_2.length : Int)
       ·rw [if_pos c29] at H
        have c29b0 : decide (x12_2 < (x6_2.length : Int)) = true := decide_eq_true c29
        clear c29
        by_cases c30 : 0 ≤ x12_2
        rotate_left
        ·rw [if_neg c30] at H; exact absurd H (by simp)
        rw [if_pos c30] at H
        have c30b0 : decide (0 ≤ x12_2) = true := decide_eq_true c30
        clear c30
        by_cases c31 : x12_2 < (x179001_2.length : Int)
        rotate_left
        ·rw [if_neg c31] at H; exact absurd H (by simp)
        rw [if_pos c31] at H
        have c31b0 : decide (x12_2 < (x179001_2.length : Int)) = true := decide_eq_true c31
        clear c31
        obtain ⟨y180, hy180⟩ : ∃ y_ : List Int, y_ = (x179001_2.set (x12_2 : Int).toNat (rd x6_2 x12_2)) := ⟨_, rfl⟩
        replace H : (spec_l01Reduce.l2 k2 x6_2 (wrap64 ((t164.length : Int) - 1)) (wrap64 (x12_2 + 1)) t174 y180) = some (r1, r2) := by first | (rw [hy180]; with_reducible exact H) | (have H2_ := (Option.bind_some _ _).symm.trans H; rw [hy180]; with_reducible exact H2_) | (have H2_ := (Option.bind_some _ _).symm.trans H; with_reducible exact H2_) | with_reducible exact H | (rw [hy180]; exact H) | exact H
        have Ny180 := Aside0.mk hy180
        clear hy180
        have H' := Aside0.mk H
        clear H
        try go_wp2
        replace HO_6 := rd0 HO_6
        replace HO_179001 := rd0 HO_179001
        replace BK163 := bd BK163
        replace BK178 := bd BK178
        replace HB := hd0 HB
        have p179 : 0 ≤ (x12_2 : Int) := of_decide_eq_true (by first | (with_reducible assumption) | assumption)
        have q179 : x12_2 < (x6_2.length : Int) := of_decide_eq_true (by first | (with_reducible assumption) | assumption)
        try (obtain ⟨Aw_, cw_, ew_⟩ := Kd.R_slice HO_6.out; subst ew_)
        obtain ⟨ad179, e179, hx179_0⟩ := Kd.at_int (Kd.R_reads' HO_6.out).2.2 x12_2 p179 q179
        cases e179
        replace p179 := eq_true p179
        replace q179 := eq_true q179
        have p32 : 0 ≤ (x12_2 : Int) := of_decide_eq_true (by first | (with_reducible assumption) | assumption)
        have q32 : (x12_2 : Int) < ((x179001_2.length : Int) : Int) := of_decide_eq_true (by first | (with_reducible assumption) | assumption)
        obtain ⟨go32, co32, eo32, gb32, gl32, cl32, HG32⟩ := Kd.R_form HO_179001.out (by omega)
        (first | cases eo32 | (injection eo32 with ea_ en_ ec_; (first | subst ea_ | (injection ea_ with ea_; subst ea_)); subst ec_; clear en_))
        have GB32 := Aside0.mk gb32
        have GG32 := Aside0.mk HG32
        clear gb32 gl32 HG32
        obtain ⟨hx32_0, hf32_0⟩ := Kd.R_celln 0 HO_179001.out (x12_2 : Int) p32 q32
        replace p32 := eq_true p32
        replace q32 := eq_true q32
        have HP34 := Kd.R_putn HO_179001.out (x12_2 : Int) (rd x6_2 x12_2)
        rw [← Ny180.out] at HP34
        have HQ34 := Aside0.mk HP34
        clear HP34
        refine start_ (n := 9) (S := fun w' => w'.cell? ⟨gb178, 0, none⟩ = some (.int .i64 t174) ∧ w'.cell? ⟨gb178, 1, none⟩ = some (.slice (some ⟨go32, 0, none⟩) x179001_2.length co32) ∧ w'.cell? (ad179.add (x12_2).toNat) = some (.int .i64 (rd x6_2 x12_2))) (ds := [8]) #[false, false, false, false, false, false, false, false, false] (by kernel_rfl) rfl rfl ⟨(blk_cell BK178.out 0).trans rfl, (blk_cell BK178.out 1).trans rfl, hx179_0⟩ (fun hHeld => ?_); refine with_tabW spec_l01Reduce.tab15 spec_l01Reduce.bits15 (fun HT_ HW_ => ?_)
        generalize wr.drew = w33 at HO_6 HO_179001 BK163 BK178 HB GG32 HQ34 hf32_0 hx179_0 hx32_0 hHeld ⊢
        refine pu 0 (some 72) HT_ ?_
        refine pu 2 (some 74) HT_ ?_
        refine pu 3 (some 75) HT_ ?_
        refine pu 4 (some 76) HT_ ?_
        refine pu 5 (some 77) HT_ ?_
        refine tk 1 (some 73) HT_ HW_ hHeld ?_ (hy := by rintro w' ⟨s0, s1, s2⟩; go_simp; with_reducible rfl)
        refine tk 6 (some 78) HT_ HW_ hHeld ?_ (hy := by rintro w' ⟨s0, s1, s2⟩; go_simp; with_reducible rfl)
        refine pu 7 (some 79) HT_ ?_
        refine la 8 none HT_ (fun K hK => ?_)
        refine skip_ (w1 := ?_) (by rfl) rfl ?_ ?_
        rotate_left
        ·go_simp
         rfl
        refine hK.out _ _ ?_
        clear hK K
        refine done_ (done_of HT_.out (by kernel_rfl)) ?_
        try go_wp2
        (try simp only [← hl6_2])
        go_roundg k2
        case measure => have := HK1.out; have := HK2.out; omega
        case rel => exact ⟨(x6_2), (wrap64 (x12_2 + 1)), (y180), (.slice (some ⟨go32, 0, none⟩) x179001_2.length co32), (by first | rfl | (simp; done) | (simp [*]; done)), H', ⟨by have := HK1.out; have := HK2.out; omega⟩, ⟨by (try simp only [hl6_1]); (try simp only [hl6_2]); (with_reducible repeat (first | apply Kd.R_alloc | apply Kd.R_drewN | apply Kd.R_drew)); exact Kd.R_mono (Kd.R_far (p := ⟨go32, (x12_2 : Int).toNat, none⟩) (Kd.R_mono HO_6.out (fun k_ hk => (⟨hk, fun e_ => hk (by rw [e_]; rfl)⟩ : _ ∧ k_ ≠ go32))) (fun _ hk => hk.2) (.int .i64 (rd x6_2 x12_2))) (fun _ hk => hk.1)⟩, ⟨by (try simp only [hl6_1]); (try simp only [hl6_2]); (with_reducible repeat (first | apply Kd.R_alloc | apply Kd.R_drewN | apply Kd.R_drew)); exact HQ34.out⟩, ⟨by (try simp only [hl6_1]); (try simp only [hl6_2]); (with_reducible repeat (first | refine blk_drewN ?_ _ | refine blk_drew ?_ | refine blk_alloc ?_ _)); refine blk_far ?_ (by have h_ := Kd.R_ne HO_179001.out BK163.out (by decide); intro e_; exact h_ (by rw [e_]; rfl)) _; (with_reducible repeat (first | refine blk_drewN ?_ _ | refine blk_drew ?_ | refine blk_alloc ?_ _)); exact BK163.out⟩, ⟨by (try simp only [hl6_1]); (try simp only [hl6_2]); (with_reducible repeat (first | refine blk_drewN ?_ _ | refine blk_drew ?_ | refine blk_alloc ?_ _)); refine blk_far ?_ (by have h_ := Kd.R_ne HO_179001.out BK178.out (by decide); intro e_; exact h_ (by rw [e_]; rfl)) _; (with_reducible repeat (first | refine blk_drewN ?_ _ | refine blk_drew ?_ | refine blk_alloc ?_ _)); exact BK178.out⟩, ⟨by repeat (first | (with_reducible first | exact HB.out | apply below_alloc | apply pw_below_drewN | apply below_drew1 | refine below_set ?_ GB32.out | refine below_set ?_ GE163.out | refine below_set ?_ GE178.out) | exact HB.out)⟩⟩
       ·rw [if_neg c29] at H
        have c29b0 : decide (x12_2 < (x6_2.length : Int)) = false := decide_eq_false c29
        clear c29
        simp only [Option.some.injEq, Prod.mk.injEq] at H
        obtain ⟨rfl, rfl⟩ := H
        have hnb35 := NB178_163.out
        have hnc35 := NB163_178.out
        have hcz36_0 : wr.cell? ⟨gb178, 0, none⟩ = some (.int .i64 t174) := (blk_cell BK178.out 0).trans rfl
        have hcz36_1 : wr.cell? ⟨gb178, 1, none⟩ = some (u179001) := (blk_cell BK178.out 1).trans rfl
        have hfz36_0 := blk_frozen BK178.out 0
        have hfz36_1 := blk_frozen BK178.out 1
        have hcz37_0 : wr.cell? ⟨gb163, 0, none⟩ = some (.int .i64 0) := (blk_cell BK163.out 0).trans rfl
        have hcz37_1 : wr.cell? ⟨gb163, 1, none⟩ = some (.slice none 0 0) := (blk_cell BK163.out 1).trans rfl
        have hfz37_0 := blk_frozen BK163.out 0
        have hfz37_1 := blk_frozen BK163.out 1
        obtain ⟨Ao38, co38, eo38⟩ := Kd.R_slice HO_179001.out
        subst eo38
        go_wp2
        refine bodyPost_ret (results_cell_row rfl _ _ gb163 29 #[.int .i64 t174, .slice Ao38 x179001_2.length co38] (0, 0) _ rfl (by (with_reducible repeat (first | refine blk_drewN ?_ _ | refine blk_drew ?_ | refine blk_alloc ?_ _)); refine blk_put (cs := #[.int .i64 t174, .slice none 0 0]) ?_ 1 _ rfl; (with_reducible repeat (first | refine blk_drewN ?_ _ | refine blk_drew ?_ | refine blk_alloc ?_ _)); refine blk_put (cs := #[.int .i64 0, .slice none 0 0]) ?_ 0 _ rfl; (with_reducible repeat (first | refine blk_drewN ?_ _ | refine blk_drew ?_ | refine blk_alloc ?_ _)); exact BK163.out) Try.underlying29 rfl (by kernel_rfl)) rfl ?_
        exact ⟨_, by first | rfl | (simp [errW_none, errW_some] <;> rfl) | (simp [*, errW_none, errW_some] <;> rfl), by (with_reducible repeat (first | apply Kd.R_alloc | apply Kd.R_drewN | apply Kd.R_drew)); exact Kd.R_mono (Kd.R_far (p := ⟨gb163, 1, none⟩) (Kd.R_far (p := ⟨gb163, 0, none⟩) (Kd.R_types HO_179001.out BK163.out (by decide)) (fun _ hk => hk.2) (.int .i64 t174)) (fun _ hk => hk.2) (.slice Ao38 x179001_2.length co38)) (fun _ hk => trivial), bks HB.out⟩
      ·rw [if_neg c28] at H
       have c28b0 : decide (x12_2 < (wrap64 ((t164.length : Int) - 1))) = false := decide_eq_false c28
       clear c28
       simp only [Option.some.injEq, Prod.mk.injEq] at H
       obtain ⟨rfl, rfl⟩ := H
       have hnb39 := NB178_163.out
       have hnc39 := NB163_178.out
       have hcz40_0 : wr.cell? ⟨gb178, 0, none⟩ = some (.int .i64 t174) := (blk_cell BK178.out 0).trans rfl
       have hcz40_1 : wr.cell? ⟨gb178, 1, none⟩ = some (u179001) := (blk_cell BK178.out 1).trans rfl
       have hfz40_0 := blk_frozen BK178.out 0
       have hfz40_1 := blk_frozen BK178.out 1
       have hcz41_0 : wr.cell? ⟨gb163, 0, none⟩ = some (.int .i64 0) := (blk_cell BK163.out 0).trans rfl
       have hcz41_1 : wr.cell? ⟨gb163, 1, none⟩ = some (.slice none 0 0) := (blk_cell BK163.out 1).trans rfl
       have hfz41_0 := blk_frozen BK163.out 0
       have hfz41_1 := blk_frozen BK163.out 1
       obtain ⟨Ao42, co42, eo42⟩ := Kd.R_slice HO_179001.out
       subst eo42
       go_wp2
       refine bodyPost_ret (results_cell_row rfl _ _ gb163 29 #[.int .i64 t174, .slice Ao42 x179001_2.length co42] (0, 0) _ rfl (by (with_reducible repeat (first | refine blk_drewN ?_ _ | refine blk_drew ?_ | refine blk_alloc ?_ _)); refine blk_put (cs := #[.int .i64 t174, .slice none 0 0]) ?_ 1 _ rfl; (with_reducible repeat (first | refine blk_drewN ?_ _ | refine blk_drew ?_ | refine blk_alloc ?_ _)); refine blk_put (cs := #[.int .i64 0, .slice none 0 0]) ?_ 0 _ rfl; (with_reducible repeat (first | refine blk_drewN ?_ _ | refine blk_drew ?_ | refine blk_alloc ?_ _)); exact BK163.out) Try.underlying29 rfl (by kernel_rfl)) rfl ?_
       exact ⟨_, by first | rfl | (simp [errW_none, errW_some] <;> rfl) | (simp [*, errW_none, errW_some] <;> rfl), by (with_reducible repeat (first | apply Kd.R_alloc | apply Kd.R_drewN | apply Kd.R_drew)); exact Kd.R_mono (Kd.R_far (p := ⟨gb163, 1, none⟩) (Kd.R_far (p := ⟨gb163, 0, none⟩) (Kd.R_types HO_179001.out BK163.out (by decide)) (fun _ hk => hk.2) (.int .i64 t174)) (fun _ hk => hk.2) (.slice Ao42 x179001_2.length co42)) (fun _ hk => trivial), bks HB.out⟩

/-! ### spec_l01Unit: function 140 -/
def spec_l01Unit.f (k : Nat) (a0 : Int) (a1 : Int) : Option (Int × List Int) := if a0 = 0 then (none) else (if 0 ≤ (wrap64 ((Int.tmod (wrap64 ((Int.tmod a1 a0) + a0)) a0) + 1)) then (if (wrap64 ((Int.tmod (wrap64 ((Int.tmod a1 a0) + a0)) a0) + 1) : Int).toNat ≤ 35184372088832 then ((some (List.replicate (wrap64 ((Int.tmod (wrap64 ((Int.tmod a1 a0) + a0)) a0) + 1) : Int).toNat 0 : List Int)).bind fun y182 => (if 0 ≤ (Int.tmod (wrap64 ((Int.tmod a1 a0) + a0)) a0) then (if (Int.tmod (wrap64 ((Int.tmod a1 a0) + a0)) a0) < (y182.length : Int) then ((spec_l01Reduce.f k a0 (y182.set ((Int.tmod (wrap64 ((Int.tmod a1 a0) + a0)) a0) : Int).toNat 1)).bind fun bt186 => (some (bt186.1, bt186.2))) else (none)) else (none))) else (none)) else (none))
theorem spec_l01Unit.mono : ∀ a0 a1 k, LeO (spec_l01Unit.f k a0 a1) (spec_l01Unit.f (k + 1) a0 a1) := by
 intro a0 a1 k
 unfold spec_l01Unit.f
 repeat' first | (with_reducible first | exact spec_l01Reduce.mono _ _ _ | exact LeO.refl _ | exact LeO.none _ | refine LeO.ite ?_ ?_ | refine LeO.bind ?_ (fun _ => ?_)) | exact LeO.none _ | refine LeO.ite ?_ ?_ | refine LeO.bind ?_ (fun _ => ?_)
set_option maxHeartbeats 8000000 in
set_option maxRecDepth 100000 in
theorem spec_l01Unit.calls (k : Nat) (a0 : Int) (a1 : Int) (r1 : Int) (r2 : List Int) (w : World) (h : spec_l01Unit.f k a0 a1 = some (r1, r2)) :
  Calls Try.prog 140 #[.int .i64 a0, .int .i64 a1] w fun e w' => ∃ v1_ : Value, e = .returned (.agg #[.int .i64 r1, v1_]) ∧ Kd.R (Kd.int .i64) 2 w' w.heap.size (fun _ => True) v1_ r2 ∧ Below w.heap.size w w' := by
 have hu29 := Try.underlying29
 have HB := Aside0.mk (Below.refl w.heap.size w)
 have H := h
 unfold spec_l01Unit.f at H
 clear h
 by_cases c3 : a0 = 0
 ·rw [if_pos c3] at H; exact absurd H (by simp)
 rw [if_neg c3] at H
 have c3b0 : (a0 == 0) = false := beq_eq_false_iff_ne.mpr c3
 have c3b1 : (a0 != 0) = true := bne_iff_ne.mpr c3
 obtain ⟨ji4, hji4⟩ : ∃ j_ : Int, (wrap64 ((Int.tmod (wrap64 ((Int.tmod a1 a0) + a0)) a0) + 1)) = j_ := ⟨_, rfl⟩
 replace H : (if 0 ≤ (ji4) then (if (ji4 : Int).toNat ≤ 35184372088832 then ((some (List.replicate (ji4 : Int).toNat 0 : List Int)).bind fun y182 => (if 0 ≤ (Int.tmod (wrap64 ((Int.tmod a1 a0) + a0)) a0) then (if (Int.tmod (wrap64 ((Int.tmod a1 a0) + a0)) a0) < (y182.length : Int) then ((spec_l01Reduce.f k a0 (y182.set ((Int.tmod (wrap64 ((Int.tmod a1 a0) + a0)) a0) : Int).toNat 1)).bind fun bt186 => (some (bt186.1, bt186.2))) else (none)) else (none))) else (none)) else (none)) = some (r1, r2) := by first | (rw [hji4] at H; exact H) | (simp only [hji4] at H ⊢; exact H)
 have hji4w : (IntKind.i64.wrap ((Int.tmod (wrap64 ((Int.tmod a1 a0) + a0)) a0) + 1)) = ji4 := (i64_w _).trans hji4
 by_cases c5 : 0 ≤ (ji4)
 rotate_left
 ·rw [if_neg c5] at H; exact absurd H (by simp)
 rw [if_pos c5] at H
 have c5b0 := eq_true c5
 have c5b1 : decide (0 ≤ (ji4)) = true := decide_eq_true c5
 clear c5
 by_cases c6 : (ji4 : Int).toNat ≤ 35184372088832
 rotate_left
 ·rw [if_neg c6] at H; exact absurd H (by simp)
 rw [if_pos c6] at H
 have c6b0 := eq_true c6
 have c6b1 : decide ((ji4 : Int).toNat ≤ 35184372088832) = true := decide_eq_true c6
 clear c6
 obtain ⟨y182, hy182⟩ : ∃ y_ : List Int, y_ = (List.replicate (ji4 : Int).toNat 0) := ⟨_, rfl⟩
 replace H : (if 0 ≤ (Int.tmod (wrap64 ((Int.tmod a1 a0) + a0)) a0) then (if (Int.tmod (wrap64 ((Int.tmod a1 a0) + a0)) a0) < (y182.length : Int) then ((spec_l01Reduce.f k a0 (y182.set ((Int.tmod (wrap64 ((Int.tmod a1 a0) + a0)) a0) : Int).toNat 1)).bind fun bt186 => (some (bt186.1, bt186.2))) else (none)) else (none)) = some (r1, r2) := by first | (rw [hy182]; with_reducible exact H) | (have H2_ := (Option.bind_some _ _).symm.trans H; rw [hy182]; with_reducible exact H2_) | (have H2_ := (Option.bind_some _ _).symm.trans H; with_reducible exact H2_) | with_reducible exact H | (rw [hy182]; exact H) | exact H
 have Ny182 := Aside0.mk hy182
 clear hy182
 obtain ⟨ji7, hji7⟩ : ∃ j_ : Int, (Int.tmod (wrap64 ((Int.tmod a1 a0) + a0)) a0) = j_ := ⟨_, rfl⟩
 (try rw [hji7] at hji4)
 (try rw [hji7] at hji4w)
 replace H : (if 0 ≤ (ji7) then (if (ji7) < (y182.length : Int) then ((spec_l01Reduce.f k a0 (y182.set ((ji7) : Int).toNat 1)).bind fun bt186 => (some (bt186.1, bt186.2))) else (none)) else (none)) = some (r1, r2) := by first | (rw [hji7] at H; exact H) | (simp only [hji7] at H ⊢; exact H)
 by_cases c8 : 0 ≤ (ji7)
 rotate_left
 ·rw [if_neg c8] at H; exact absurd H (by simp)
 rw [if_pos c8] at H
 have c8b0 : decide (0 ≤ (ji7)) = true := decide_eq_true c8
 clear c8
 by_cases c9 : (ji7) < (y182.length : Int)
 rotate_left
 ·rw [if_neg c9] at H; exact absurd H (by simp)
 rw [if_pos c9] at H
 have c9b0 : decide ((ji7) < (y182.length : Int)) = true := decide_eq_true c9
 clear c9
 obtain ⟨y185, hy185⟩ : ∃ y_ : List Int, y_ = (y182.set ((ji7) : Int).toNat 1) := ⟨_, rfl⟩
 replace H : ((spec_l01Reduce.f k a0 y185).bind fun bt186 => (some (bt186.1, bt186.2))) = some (r1, r2) := by first | (rw [hy185]; with_reducible exact H) | (have H2_ := (Option.bind_some _ _).symm.trans H; rw [hy185]; with_reducible exact H2_) | (have H2_ := (Option.bind_some _ _).symm.trans H; with_reducible exact H2_) | with_reducible exact H | (rw [hy185]; exact H) | exact H
 have Ny185 := Aside0.mk hy185
 clear hy185
 replace H := Option.bind_eq_some_iff.mp H
 obtain ⟨⟨t186, t187⟩, A110, H⟩ := H
 replace H : (some (t186, t187)) = some (r1, r2) := H
 have A11 := Aside0.mk A110
 clear A110
 simp only [Option.some.injEq, Prod.mk.injEq] at H
 obtain ⟨rfl, rfl⟩ := H
 go_enter Try.func140, Try.ntmps140
 go_wp2_with (first | ((with_reducible refine gate_dst (N := 4) rfl ?_); refine bx 4 #[.int .i64 0, .slice none 0 0] 29 (fun gb181 hg w12 hbox hb => ?_); have BK181 := Aside0.mk hbox; have GW181 := ge HB hg; have GE181 := GW181; replace HB := hs HB hb; clear hb hbox hg) | ((with_reducible refine gate_dst (N := 15) rfl ?_); refine Kd.R_make (Kd.int .i64) _ 2 rfl (N := 15) rfl 22 _ _ rfl ji4 rfl rfl Try.underlying22 (.int .i64 0) 8 info2 rfl (by decide) (by omega) 0 (ok := fun _ => True) (okp := fun _ => True) rfl (fun _ hk => hk) trivial (of_decide_eq_true (by first | (with_reducible assumption) | assumption)) (Nat.le_trans (Nat.mul_le_mul_right _ (of_decide_eq_true (by first | (with_reducible assumption) | assumption) : ji4.toNat ≤ 35184372088832)) (by omega)) (Below.refl _ _) (Nat.le_refl _) ?_; intro v183 w13 ho14 hb hg_ hnew_; clear hg_ hnew_; (first | rw [← Ny182.out] at ho14 | (simp only [Int.reduceToNat] at ho14; rw [← Ny182.out] at ho14)); have HO184 := Aside0.mk (Kd.R_lower ho14 (below_size (bks HB.out))); replace BK181 := bb BK181 hb; replace HB := hs HB hb; clear hb ho14; have p10 : 0 ≤ ((ji7) : Int) := of_decide_eq_true (by first | (with_reducible assumption) | assumption); have q10 : ((ji7) : Int) < ((y182.length : Int) : Int) := of_decide_eq_true (by first | (with_reducible assumption) | assumption); obtain ⟨go10, co10, eo10, gb10, gl10, cl10, HG10⟩ := Kd.R_form HO184.out (by omega); (first | cases eo10 | (injection eo10 with ea_ en_ ec_; (first | subst ea_ | (injection ea_ with ea_; subst ea_)); subst ec_; clear en_)); have GB10 := Aside0.mk gb10; have GG10 := Aside0.mk HG10; clear gb10 gl10 HG10; obtain ⟨hx10_0, hf10_0⟩ := Kd.R_celln 0 HO184.out ((ji7) : Int) p10 q10; replace p10 := eq_true p10; replace q10 := eq_true q10; obtain ⟨hy15_, hz15_⟩ := Kd.R_celln 0 HO184.out ((ji7) : Int) (of_decide_eq_true (by first | (with_reducible assumption) | assumption)) (of_decide_eq_true (by first | (with_reducible assumption) | assumption)); have HP15 := Kd.R_putg HO184.out ((ji7) : Int) 1) | ((with_reducible refine gate_store (t := 2) (p := 18) rfl ?_); refine store_event (t := 2) (p := 18) (v := ?vo_w16) (w1 := (w13.setCell ⟨go10, ((ji7) : Int).toNat, none⟩ (.int .i64 1))) ?hg ?ho ?hn ?hr ?_; (case ho => rfl); (case hg => rfl); (case hn => rfl); (case hr => first | (go_simp; done) | (go_simp; rfl)); intro w16 hw; have hg : w13.grownBy w16 (some go10) := (by rw [hw]; exact HP15.2); have hp_ : Kd.R (Kd.int .i64) 2 w16 w.heap.size (fun _ => True) (.slice (some ⟨go10, 0, none⟩) y182.length co10) y185 := (by rw [hw, Ny185.out]; exact HP15.1); clear HP15; replace BK181 := Aside0.mk (blk_grown (pk BK181.out) hg (Kd.R_ne HO184.out BK181.out (by decide))); replace HO184 := Aside0.mk hp_; replace HB := Aside0.mk (by rw [hw]; exact below_set (HB.out) GB10.out : Below w.heap.size w w16); clear hg hw hp_) | ((with_reducible refine gate_callee (f := 174) rfl ?_); refine goesL_ (some 21) rfl rfl Try.func174 (by kernel_rfl) rfl #[.int .i64 a0, .slice (some ⟨go10, 0, none⟩) y185.length co10] rfl (by (try simp only [List.map_toArray, List.map_cons, List.map_nil]); first | done | (rw [show y185.length = y182.length from (Kd.R_reads' HO184.out).1.symm] <;> rfl) | rfl | (simp only [List.length_drop, List.length_take]; rfl)) ?_; (with_reducible refine (spec_l01Reduce.calls k a0 _ _ y185 t186 t187 _ ?side1 ?side2 A11.out).mono ?_); (case side1 => repeat (first | exact (Kd.R_reads' HO184.out).2.2 | (with_reducible refine Kd.C_alloc ?_ _) | (with_reducible refine Kd.C_drewN ?_ _) | (with_reducible refine Kd.C_drew ?_))); (case side2 => rw [show y185.length = y182.length from (Kd.R_reads' HO184.out).1.symm]; exact (Kd.R_reads' HO184.out).2.1); rintro e w17 ⟨v188, rfl, ho0, hb⟩; refine ⟨_, rfl, ?_⟩; have HO189 := Aside0.mk (Kd.R_lower (Kd.R_new' ho0 (Kd.R_lt (rk HO184.out))) (below_size (bks HB.out))); replace HO184 := re HO184 ho0 hb; replace BK181 := bb BK181 hb; replace HB := hs HB hb; (try clear hb ho0); have hcz18_0 : w17.cell? ⟨gb181, 0, none⟩ = some (.int .i64 0) := (blk_cell BK181.out 0).trans rfl; have hcz18_1 : w17.cell? ⟨gb181, 1, none⟩ = some (.slice none 0 0) := (blk_cell BK181.out 1).trans rfl; have hfz18_0 := blk_frozen BK181.out 0; have hfz18_1 := blk_frozen BK181.out 1; obtain ⟨Ao19, co19, eo19⟩ := Kd.R_slice HO189.out; subst eo19))
 refine bodyPost_ret (results_cell_row rfl _ _ gb181 29 #[.int .i64 t186, .slice Ao19 t187.length co19] (0, 0) _ rfl (by (with_reducible repeat (first | refine blk_drewN ?_ _ | refine blk_drew ?_ | refine blk_alloc ?_ _)); refine blk_put (cs := #[.int .i64 t186, .slice none 0 0]) ?_ 1 _ rfl; (with_reducible repeat (first | refine blk_drewN ?_ _ | refine blk_drew ?_ | refine blk_alloc ?_ _)); refine blk_put (cs := #[.int .i64 0, .slice none 0 0]) ?_ 0 _ rfl; (with_reducible repeat (first | refine blk_drewN ?_ _ | refine blk_drew ?_ | refine blk_alloc ?_ _)); exact BK181.out) Try.underlying29 rfl (by kernel_rfl)) rfl ?_
 exact ⟨_, by first | rfl | (simp [errW_none, errW_some] <;> rfl) | (simp only [← hji4, ← hji7]; first | rfl | (simp [errW_none, errW_some] <;> rfl)) | (simp [*, errW_none, errW_some] <;> rfl), by (with_reducible repeat (first | apply Kd.R_alloc | apply Kd.R_drewN | apply Kd.R_drew)); exact Kd.R_mono (Kd.R_far (p := ⟨gb181, 1, none⟩) (Kd.R_far (p := ⟨gb181, 0, none⟩) (Kd.R_types HO189.out BK181.out (by decide)) (fun _ hk => hk.2) (.int .i64 t186)) (fun _ hk => hk.2) (.slice Ao19 t187.length co19)) (fun _ hk => trivial), bks HB.out⟩
/-! ### spec_l01One: function 97 -/
def spec_l01One.f (k : Nat) (a0 : Int) : Option (Int × List Int) := (spec_l01Unit.f k a0 0).bind fun bt191 => (some (bt191.1, bt191.2))
theorem spec_l01One.mono : ∀ a0 k, LeO (spec_l01One.f k a0) (spec_l01One.f (k + 1) a0) := by
 intro a0 k
 unfold spec_l01One.f
 repeat' first | (with_reducible first | exact spec_l01Unit.mono _ _ _ | exact LeO.refl _ | exact LeO.none _ | refine LeO.ite ?_ ?_ | refine LeO.bind ?_ (fun _ => ?_)) | exact LeO.none _ | refine LeO.ite ?_ ?_ | refine LeO.bind ?_ (fun _ => ?_)
set_option maxHeartbeats 8000000 in
set_option maxRecDepth 100000 in
theorem spec_l01One.calls (k : Nat) (a0 : Int) (r1 : Int) (r2 : List Int) (w : World) (h : spec_l01One.f k a0 = some (r1, r2)) :
  Calls Try.prog 97 #[.int .i64 a0] w fun e w' => ∃ v1_ : Value, e = .returned (.agg #[.int .i64 r1, v1_]) ∧ Kd.R (Kd.int .i64) 2 w' w.heap.size (fun _ => True) v1_ r2 ∧ Below w.heap.size w w' := by
 have hu29 := Try.underlying29
 have HB := Aside0.mk (Below.refl w.heap.size w)
 have H : ((spec_l01Unit.f k a0 0).bind fun bt191 => (some (bt191.1, bt191.2))) = some (r1, r2) := h
 clear h
 replace H := Option.bind_eq_some_iff.mp H
 obtain ⟨⟨t191, t192⟩, A20, H⟩ := H
 replace H : (some (t191, t192)) = some (r1, r2) := H
 have A2 := Aside0.mk A20
 clear A20
 simp only [Option.some.injEq, Prod.mk.injEq] at H
 obtain ⟨rfl, rfl⟩ := H
 go_enter Try.func97, Try.ntmps97
 go_wp2_with (first | ((with_reducible refine gate_dst (N := 2) rfl ?_); refine bx 2 #[.int .i64 0, .slice none 0 0] 29 (fun gb190 hg w3 hbox hb => ?_); have BK190 := Aside0.mk hbox; have GW190 := ge HB hg; have GE190 := GW190; replace HB := hs HB hb; clear hb hbox hg) | ((with_reducible refine gate_callee (f := 140) rfl ?_); refine gl (some 4) Try.func140 #[.int .i64 a0, .int .i64 0] ?_; (with_reducible refine (spec_l01Unit.calls k a0 0 t191 t192 _ A2.out).mono ?_); rintro e w4 ⟨v193, rfl, ho0, hb⟩; refine ⟨_, rfl, ?_⟩; have HO194 := Aside0.mk (Kd.R_lower ho0 (below_size (bks HB.out))); replace BK190 := bb BK190 hb; replace HB := hs HB hb; (try clear hb ho0); have hcz5_0 : w4.cell? ⟨gb190, 0, none⟩ = some (.int .i64 0) := (blk_cell BK190.out 0).trans rfl; have hcz5_1 : w4.cell? ⟨gb190, 1, none⟩ = some (.slice none 0 0) := (blk_cell BK190.out 1).trans rfl; have hfz5_0 := blk_frozen BK190.out 0; have hfz5_1 := blk_frozen BK190.out 1; obtain ⟨Ao6, co6, eo6⟩ := Kd.R_slice HO194.out; subst eo6))
 refine bodyPost_ret (results_cell_row rfl _ _ gb190 29 #[.int .i64 t191, .slice Ao6 t192.length co6] (0, 0) _ rfl (by (with_reducible repeat (first | refine blk_drewN ?_ _ | refine blk_drew ?_ | refine blk_alloc ?_ _)); refine blk_put (cs := #[.int .i64 t191, .slice none 0 0]) ?_ 1 _ rfl; (with_reducible repeat (first | refine blk_drewN ?_ _ | refine blk_drew ?_ | refine blk_alloc ?_ _)); refine blk_put (cs := #[.int .i64 0, .slice none 0 0]) ?_ 0 _ rfl; (with_reducible repeat (first | refine blk_drewN ?_ _ | refine blk_drew ?_ | refine blk_alloc ?_ _)); exact BK190.out) Try.underlying29 rfl (by kernel_rfl)) rfl ?_
 exact ⟨_, by first | rfl | (simp [errW_none, errW_some] <;> rfl) | (simp [*, errW_none, errW_some] <;> rfl), by (with_reducible repeat (first | apply Kd.R_alloc | apply Kd.R_drewN | apply Kd.R_drew)); exact Kd.R_mono (Kd.R_far (p := ⟨gb190, 1, none⟩) (Kd.R_far (p := ⟨gb190, 0, none⟩) (Kd.R_types HO194.out BK190.out (by decide)) (fun _ hk => hk.2) (.int .i64 t191)) (fun _ hk => hk.2) (.slice Ao6 t192.length co6)) (fun _ hk => trivial), bks HB.out⟩

/-! ### spec_l01Galois: function 99 -/
def spec_l01Galois.l0 : Nat → Int → Int → List Int → Int → Int → List Int → Option (Int × List Int)
 | 0, _, _, _, _, _, _ => none
 | k + 1, x1, x5, x6, x7, x196000, x196001 => if x7 < (x196001.length : Int) then (if x5 = 0 then (none) else (if 0 ≤ (Int.tmod (wrap64 ((Int.tmod (wrap64 (x7 * x1)) x5) + x5)) x5) then (if (Int.tmod (wrap64 ((Int.tmod (wrap64 (x7 * x1)) x5) + x5)) x5) < (x6.length : Int) then (if 0 ≤ x7 then (spec_l01Galois.l0 k x1 x5 (x6.set ((Int.tmod (wrap64 ((Int.tmod (wrap64 (x7 * x1)) x5) + x5)) x5) : Int).toNat (wrap64 ((rd x6 (Int.tmod (wrap64 ((Int.tmod (wrap64 (x7 * x1)) x5) + x5)) x5)) + (rd x196001 x7)))) (wrap64 (x7 + 1)) x196000 x196001) else (none)) else (none)) else (none))) else ((spec_l01Reduce.f k x5 x6).bind fun bt203 => (some (bt203.1, bt203.2)))
def spec_l01Galois.f (k : Nat) (a0_0 : Int) (l0_1 : List Int) (a1 : Int) : Option (Int × List Int) := if 0 ≤ a0_0 then (if (a0_0 : Int).toNat ≤ 35184372088832 then (spec_l01Galois.l0 k a1 a0_0 (List.replicate (a0_0 : Int).toNat 0) 0 a0_0 l0_1) else (none)) else (none)
theorem spec_l01Galois.mono_l : ∀ k, (∀ y0 y1 y2 y3 y4 y5, LeO (spec_l01Galois.l0 k y0 y1 y2 y3 y4 y5) (spec_l01Galois.l0 (k + 1) y0 y1 y2 y3 y4 y5))
 | 0 => fun _ _ _ _ _ _ r h => by simp [spec_l01Galois.l0] at h
 | k + 1 => by
  have ih0 := spec_l01Galois.mono_l k
  ·intro y0 y1 y2 y3 y4 y5
   unfold spec_l01Galois.l0
   repeat' first | (with_reducible first | exact ih0 _ _ _ _ _ _ | exact spec_l01Reduce.mono _ _ _ | exact LeO.refl _ | exact LeO.none _ | refine LeO.ite ?_ ?_ | refine LeO.bind ?_ (fun _ => ?_)) | exact ih0 _ _ _ _ _ _ | exact LeO.none _ | refine LeO.ite ?_ ?_ | refine LeO.bind ?_ (fun _ => ?_)
theorem spec_l01Galois.mono : ∀ a0 a1 a2 k, LeO (spec_l01Galois.f k a0 a1 a2) (spec_l01Galois.f (k + 1) a0 a1 a2) := by
 intro a0 a1 a2 k
 have ih0 := spec_l01Galois.mono_l k
 unfold spec_l01Galois.f
 repeat' first | (with_reducible first | exact ih0 _ _ _ _ _ _ | exact spec_l01Reduce.mono _ _ _ | exact LeO.refl _ | exact LeO.none _ | refine LeO.ite ?_ ?_ | refine LeO.bind ?_ (fun _ => ?_)) | exact ih0 _ _ _ _ _ _ | exact LeO.none _ | refine LeO.ite ?_ ?_ | refine LeO.bind ?_ (fun _ => ?_)
def spec_l01Galois.T7 : Bool × List (List Nat × List Nat) := (true, [([], []), ([], []), ([], []), ([], []), ([2, 3], [2, 3]), ([4], [4]), ([], []), ([6], [6]), ([], []), ([7, 8], [7, 8]), ([9], [9]), ([5, 10], [5, 10]), ([0, 1, 0, 1, 2, 3, 4, 5, 6, 7, 8, 9, 10, 11], [0, 1]), ([12, 11, 0, 1, 2, 3, 4, 5, 6, 7, 8, 9, 10, 11], [11, 12])])
def spec_l01Galois.B7 : List Nat := [0, 0, 0, 0, 12, 28, 0, 64, 0, 448, 960, 2044, 4095, 8191]
theorem spec_l01Galois.tab7 : rtab .any (opsOf Try.f99 7) = spec_l01Galois.T7 := by kernel_rfl
theorem spec_l01Galois.bits7 : waitsOk spec_l01Galois.T7.2 spec_l01Galois.B7 = true := by kernel_rfl
set_option maxHeartbeats 8000000 in
set_option maxRecDepth 100000 in
theorem spec_l01Galois.calls (k : Nat) (a0_0 : Int) (A0_1 : Option Addr) (c0_1 : Nat) (l0_1 : List Int) (a1 : Int) (r1 : Int) (r2 : List Int) (w : World) (hr0_1 : Kd.C (Kd.int .i64) w A0_1 l0_1.length l0_1) (hc0_1 : l0_1.length ≤ c0_1) (h : spec_l01Galois.f k a0_0 l0_1 a1 = some (r1, r2)) :
  Calls Try.prog 99 #[.agg #[.int .i64 a0_0, .slice A0_1 l0_1.length c0_1], .int .i64 a1] w fun e w' => ∃ v1_ : Value, e = .returned (.agg #[.int .i64 r1, v1_]) ∧ Kd.R (Kd.int .i64) 2 w' w.heap.size (fun _ => True) v1_ r2 ∧ Below w.heap.size w w' := by
 have hu29 := Try.underlying29
 have HR0_1 := Aside0.mk hr0_1
 have HC0_1 := Aside0.mk hc0_1
 clear hr0_1 hc0_1
 have HB := Aside0.mk (Below.refl w.heap.size w)
 have H := h
 unfold spec_l01Galois.f at H
 clear h
 by_cases c3 : 0 ≤ a0_0
 rotate_left
 ·rw [if_neg c3] at H; exact absurd H (by simp)
 rw [if_pos c3] at H
 have c3b0 := eq_true c3
 have c3b1 : decide (0 ≤ a0_0) = true := decide_eq_true c3
 clear c3
 by_cases c4 : (a0_0 : Int).toNat ≤ 35184372088832
 rotate_left
 ·rw [if_neg c4] at H; exact absurd H (by simp)
 rw [if_pos c4] at H
 have c4b0 := eq_true c4
 have c4b1 : decide ((a0_0 : Int).toNat ≤ 35184372088832) = true := decide_eq_true c4
 clear c4
 obtain ⟨y197, hy197⟩ : ∃ y_ : List Int, y_ = (List.replicate (a0_0 : Int).toNat 0) := ⟨_, rfl⟩
 replace H : (spec_l01Galois.l0 k a1 a0_0 y197 0 a0_0 l0_1) = some (r1, r2) := by first | (rw [hy197]; with_reducible exact H) | (have H2_ := (Option.bind_some _ _).symm.trans H; rw [hy197]; with_reducible exact H2_) | (have H2_ := (Option.bind_some _ _).symm.trans H; with_reducible exact H2_) | with_reducible exact H | (rw [hy197]; exact H) | exact H
 have Ny197 := Aside0.mk hy197
 clear hy197
 have H' := Aside0.mk H
 clear H
 go_enter Try.func99, Try.ntmps99
 go_wp2_with (first | ((with_reducible refine gate_dst (N := 2) rfl ?_); refine bx 2 #[.int .i64 a0_0, .slice A0_1 l0_1.length c0_1] 29 (fun gb195 hg w5 hbox hb => ?_); have BK195 := Aside0.mk hbox; have GW195 := ge HB hg; have GE195 := GW195; replace HB := hs HB hb; clear hb hbox hg) | ((with_reducible refine gate_dst (N := 4) rfl ?_); refine bx 4 #[.int .i64 0, .slice none 0 0] 29 (fun gb196 hg w6 hbox hb => ?_); have BK196 := Aside0.mk hbox; have GW196 := ge HB hg; have GE196 := GW196; obtain ⟨NB195_196, NB196_195⟩ := nb BK195 hg; replace BK195 := bb BK195 hb; replace HB := hs HB hb; clear hb hbox hg; have hnb7 := NB195_196.out; have hnc7 := NB196_195.out; have hcz8_0 : w6.cell? ⟨gb195, 0, none⟩ = some (.int .i64 a0_0) := (blk_cell BK195.out 0).trans rfl; have hcz8_1 : w6.cell? ⟨gb195, 1, none⟩ = some (.slice A0_1 l0_1.length c0_1) := (blk_cell BK195.out 1).trans rfl; have hfz8_0 := blk_frozen BK195.out 0; have hfz8_1 := blk_frozen BK195.out 1) | ((with_reducible refine gate_dst (N := 12) rfl ?_); refine Kd.R_make (Kd.int .i64) _ 2 rfl (N := 12) rfl 22 _ _ rfl a0_0 rfl rfl Try.underlying22 (.int .i64 0) 8 info2 rfl (by decide) (by omega) 0 (ok := fun _ => True) (okp := fun _ => True) rfl (fun _ hk => hk) trivial (of_decide_eq_true (by first | (with_reducible assumption) | assumption)) (Nat.le_trans (Nat.mul_le_mul_right _ (of_decide_eq_true (by first | (with_reducible assumption) | assumption) : a0_0.toNat ≤ 35184372088832)) (by omega)) (Below.refl _ _) (Nat.le_refl _) ?_; intro v198 w9 ho10 hb hg_ hnew_; clear hg_ hnew_; (first | rw [← Ny197.out] at ho10 | (simp only [Int.reduceToNat] at ho10; rw [← Ny197.out] at ho10)); have HO199 := Aside0.mk (Kd.R_lower ho10 (below_size (bks HB.out))); replace BK195 := bb BK195 hb; replace BK196 := bb BK196 hb; replace HB := hs HB hb; clear hb ho10))
 go_loopg [7] k (fun kq v7 w' => ∃ (x6_1 : List Int) (x7_1 : Int), v7 = .int .i64 x7_1 ∧ Aside0 (spec_l01Galois.l0 kq a1 a0_0 x6_1 x7_1 a0_0 l0_1 = some (r1, r2)) ∧ Aside0 (kq ≤ k) ∧ Aside0 (Kd.R (Kd.int .i64) 2 w' w.heap.size (fun _ => True) v198 x6_1) ∧ Aside0 (w'.heap[gb195]? = some (.cells #[.int .i64 a0_0, (.slice A0_1 l0_1.length c0_1)] 29 (0, 0))) ∧ Aside0 (w'.heap[gb196]? = some (.cells #[.int .i64 0, (.slice none 0 0)] 29 (0, 0))) ∧ Aside0 (Below w.heap.size w w'))
 case atStart => exact ⟨(y197), (0), (by first | rfl | (simp; done) | (simp [*]; done)), H', ⟨Nat.le_refl _⟩, ⟨rk HO199.out⟩, ⟨pk BK195.out⟩, ⟨pk BK196.out⟩, ⟨bks HB.out⟩⟩
 case round =>
  clear H'
  try clear p2; try clear c3; try clear c3b0; try clear c3b1; try clear c4; try clear c4b0; try clear c4b1; try clear c7; try clear c9; try clear hcz8_0; try clear hcz8_1; try clear hfz8_0; try clear hfz8_1
  obtain ⟨x6_1, x7_1, rfl, HA, HK1, HO_6, BK195, BK196, HB⟩ := hrel
  cases gk with
  | zero => exact absurd HA.out (by simp [spec_l01Galois.l0])
  | succ k1 =>
   have H := HA.out
   clear HA
   simp only [spec_l01Galois.l0] at H
   by_cases c11 : x7_1 < (l0_1.length : Int)
   ·rw [if_pos c11] at H
    have c11b0 : decide (x7_1 < (l0_1.length : Int)) = true := decide_eq_true c11
    clear c11
    by_cases c12 : a0_0 = 0
    ·rw [if_pos c12] at H; exact absurd H (by simp)
    rw [if_neg c12] at H
    have c12b0 : (a0_0 == 0) = false := beq_eq_false_iff_ne.mpr c12
    have c12b1 : (a0_0 != 0) = true := bne_iff_ne.mpr c12
    obtain ⟨ji13, hji13⟩ : ∃ j_ : Int, (Int.tmod (wrap64 ((Int.tmod (wrap64 (x7_1 * a1)) a0_0) + a0_0)) a0_0) = j_ := ⟨_, rfl⟩
    replace H : (if 0 ≤ (ji13) then (if (ji13) < (x6_1.length : Int) then (if 0 ≤ x7_1 then (spec_l01Galois.l0 k1 a1 a0_0 (x6_1.set ((ji13) : Int).toNat (wrap64 ((rd x6_1 (ji13)) + (rd l0_1 x7_1)))) (wrap64 (x7_1 + 1)) a0_0 l0_1) else (none)) else (none)) else (none)) = some (r1, r2) := by first | (rw [hji13] at H; exact H) | (simp only [hji13] at H ⊢; exact H)
    by_cases c14 : 0 ≤ (ji13)
    rotate_left
    ·rw [if_neg c14] at H; exact absurd H (by simp)
    rw [if_pos c14] at H
    have c14b0 : decide (0 ≤ (ji13)) = true := decide_eq_true c14
    clear c14
    by_cases c15 : (ji13) < (x6_1.length : Int)
    rotate_left
    ·rw [if_neg c15] at H; exact absurd H (by simp)
    rw [if_pos c15] at H
    have c15b0 : decide ((ji13) < (x6_1.length : Int)) = true := decide_eq_true c15
    clear c15
    by_cases c16 : 0 ≤ x7_1
    rotate_left
    ·rw [if_neg c16] at H; exact absurd H (by simp)
    rw [if_pos c16] at H
    have c16b0 : decide (0 ≤ x7_1) = true := decide_eq_true c16
    clear c16
    obtain ⟨y202, hy202⟩ : ∃ y_ : List Int, y_ = (x6_1.set ((ji13) : Int).toNat (wrap64 ((rd x6_1 (ji13)) + (rd l0_1 x7_1)))) := ⟨_, rfl⟩
    replace H : (spec_l01Galois.l0 k1 a1 a0_0 y202 (wrap64 (x7_1 + 1)) a0_0 l0_1) = some (r1, r2) := by first | (rw [hy202]; with_reducible exact H) | (have H2_ := (Option.bind_some _ _).symm.trans H; rw [hy202]; with_reducible exact H2_) | (have H2_ := (Option.bind_some _ _).symm.trans H; with_reducible exact H2_) | with_reducible exact H | (rw [hy202]; exact H) | exact H
    have Ny202 := Aside0.mk hy202
    clear hy202
    have H' := Aside0.mk H
    clear H
    have hnb18 := NB195_196.out
    have hnc18 := NB196_195.out
    have hcz19_0 : wr.cell? ⟨gb195, 0, none⟩ = some (.int .i64 a0_0) := (blk_cell BK195.out 0).trans rfl
    have hcz19_1 : wr.cell? ⟨gb195, 1, none⟩ = some (.slice A0_1 l0_1.length c0_1) := (blk_cell BK195.out 1).trans rfl
    have hfz19_0 := blk_frozen BK195.out 0
    have hfz19_1 := blk_frozen BK195.out 1
    try go_wp2
    replace HO_6 := rd0 HO_6
    replace BK195 := bd BK195
    replace BK196 := bd BK196
    replace HB := hd0 HB
    obtain ⟨Ao21, co21, eo21⟩ := Kd.R_slice HO_6.out
    (first | subst eo21 | (injection eo21 with f1_ f2_ f3_; have f4_ := f1_.symm; have f5_ := f3_.symm; clear f1_ f2_ f3_; subst f4_; subst f5_))
    have p200 : 0 ≤ ((ji13) : Int) := of_decide_eq_true (by first | (with_reducible assumption) | assumption)
    have q200 : (ji13) < (x6_1.length : Int) := of_decide_eq_true (by first | (with_reducible assumption) | assumption)
    obtain ⟨ad200, e200, hx200_0⟩ := Kd.at_int (Kd.R_reads' HO_6.out).2.2 (ji13) p200 q200
    cases e200
    replace p200 := eq_true p200
    replace q200 := eq_true q200
    have p201 : 0 ≤ (x7_1 : Int) := of_decide_eq_true (by first | (with_reducible assumption) | assumption)
    have q201 : x7_1 < (l0_1.length : Int) := of_decide_eq_true (by first | (with_reducible assumption) | assumption)
    obtain ⟨ad201, e201, hx201_0⟩ := Kd.at_int HR0_1.out x7_1 p201 q201
    have hw201_0 := hx201_0
    cases e201
    replace hx201_0 := (HB.out.cell (World.block_lt_of_cell? w _ hx201_0)).trans hx201_0
    replace p201 := eq_true p201
    replace q201 := eq_true q201
    have p17 : 0 ≤ ((ji13) : Int) := of_decide_eq_true (by first | (with_reducible assumption) | assumption)
    have q17 : ((ji13) : Int) < ((x6_1.length : Int) : Int) := of_decide_eq_true (by first | (with_reducible assumption) | assumption)
    obtain ⟨go17, co17, eo17, gb17, gl17, cl17, HG17⟩ := Kd.R_form HO_6.out (by omega)
    (first | cases eo17 | (injection eo17 with ea_ en_ ec_; (first | subst ea_ | (injection ea_ with ea_; subst ea_)); subst ec_; clear en_))
    try simp only [add_plain] at *
    have GB17 := Aside0.mk gb17
    have GG17 := Aside0.mk HG17
    clear gb17 gl17 HG17
    (first | simp only [add_plain] at hx200_0 | skip)
    obtain ⟨hx17_0, hf17_0⟩ := Kd.R_celln 0 HO_6.out ((ji13) : Int) p17 q17
    replace p17 := eq_true p17
    replace q17 := eq_true q17
    have HP22 := Kd.R_putn HO_6.out ((ji13) : Int) (wrap64 ((rd x6_1 (ji13)) + (rd l0_1 x7_1)))
    rw [← Ny202.out] at HP22
    have HQ22 := Aside0.mk HP22
    clear HP22
    refine start_ (n := 14) (S := fun w' => w'.cell? ⟨gb195, 0, none⟩ = some (.int .i64 a0_0) ∧ w'.cell? ⟨gb195, 1, none⟩ = some (.slice (some ad201) l0_1.length c0_1) ∧ w'.cell? ⟨go17, ((ji13)).toNat, none⟩ = some (.int .i64 (rd x6_1 (ji13))) ∧ w'.cell? (ad201.add (x7_1).toNat) = some (.int .i64 (rd l0_1 x7_1))) (ds := [13]) #[false, false, false, false, false, false, false, false, false, false, false, false, false, false] (by kernel_rfl) rfl rfl ⟨(blk_cell BK195.out 0).trans rfl, (blk_cell BK195.out 1).trans rfl, hx200_0, ((HB.out.cell (World.block_lt_of_cell? w _ hw201_0)).trans hw201_0)⟩ (fun hHeld => ?_); refine with_tabW spec_l01Galois.tab7 spec_l01Galois.bits7 (fun HT_ HW_ => ?_)
    generalize wr.drew = w20 at HO_6 BK195 BK196 HB GG17 HQ22 hf17_0 hx17_0 hx200_0 hx201_0 hHeld ⊢
    refine pu 0 (some 29) HT_ ?_
    refine pu 1 (some 30) HT_ ?_
    refine pu 2 (some 31) HT_ ?_
    refine pu 3 (some 32) HT_ ?_
    refine pu 4 (some 33) HT_ ?_
    refine pu 6 (some 35) HT_ ?_
    refine pu 8 (some 37) HT_ ?_
    refine tk 5 (some 34) HT_ HW_ hHeld ?_ (hy := by rintro w' ⟨s0, s1, s2, s3⟩; (first | simp only [add_plain] at s0 s1 s2 s3 | skip); go_simp; with_reducible rfl)
    refine tk 7 (some 36) HT_ HW_ hHeld ?_ (hy := by rintro w' ⟨s0, s1, s2, s3⟩; (first | simp only [add_plain] at s0 s1 s2 s3 | skip); go_simp; with_reducible rfl)
    refine pu 9 (some 38) HT_ ?_
    refine tk 10 (some 39) HT_ HW_ hHeld ?_ (hy := by rintro w' ⟨s0, s1, s2, s3⟩; (first | simp only [add_plain] at s0 s1 s2 s3 | skip); go_simp; with_reducible rfl)
    refine pu 11 (some 40) HT_ ?_
    refine pu 12 (some 41) HT_ ?_
    refine la 13 none HT_ (fun K hK => ?_)
    refine skip_ (w1 := ?_) (by rfl) rfl ?_ ?_
    rotate_left
    ·go_simp
     rfl
    refine hK.out _ _ ?_
    clear hK K
    refine done_ (done_of HT_.out (by kernel_rfl)) ?_
    try go_wp2
    go_roundg k1
    case measure => have := HK1.out; omega
    case rel => exact ⟨(y202), (wrap64 (x7_1 + 1)), (by first | rfl | (simp; done) | (simp [*]; done)), H', ⟨by have := HK1.out; omega⟩, ⟨by (with_reducible repeat (first | apply Kd.R_alloc | apply Kd.R_drewN | apply Kd.R_drew)); exact HQ22.out⟩, ⟨by (with_reducible repeat (first | refine blk_drewN ?_ _ | refine blk_drew ?_ | refine blk_alloc ?_ _)); refine blk_far ?_ (by have h_ := Kd.R_ne HO_6.out BK195.out (by decide); intro e_; exact h_ (by rw [e_]; rfl)) _; (with_reducible repeat (first | refine blk_drewN ?_ _ | refine blk_drew ?_ | refine blk_alloc ?_ _)); exact BK195.out⟩, ⟨by (with_reducible repeat (first | refine blk_drewN ?_ _ | refine blk_drew ?_ | refine blk_alloc ?_ _)); refine blk_far ?_ (by have h_ := Kd.R_ne HO_6.out BK196.out (by decide); intro e_; exact h_ (by rw [e_]; rfl)) _; (with_reducible repeat (first | refine blk_drewN ?_ _ | refine blk_drew ?_ | refine blk_alloc ?_ _)); exact BK196.out⟩, ⟨by repeat (first | (with_reducible first | exact HB.out | apply below_alloc | apply pw_below_drewN | apply below_drew1 | refine below_set ?_ GB17.out | refine below_set ?_ GE195.out | refine below_set ?_ GE196.out) | exact HB.out)⟩⟩
   ·rw [if_neg c11] at H
    have c11b0 : decide (x7_1 < (l0_1.length : Int)) = false := decide_eq_false c11
    clear c11
    replace H := Option.bind_eq_some_iff.mp H
    obtain ⟨⟨t203, t204⟩, A230, H⟩ := H
    replace H : (some (t203, t204)) = some (r1, r2) := H
    have A23 := Aside0.mk A230
    clear A230
    simp only [Option.some.injEq, Prod.mk.injEq] at H
    obtain ⟨rfl, rfl⟩ := H
    have hnb24 := NB195_196.out
    have hnc24 := NB196_195.out
    have hcz25_0 : wr.cell? ⟨gb195, 0, none⟩ = some (.int .i64 a0_0) := (blk_cell BK195.out 0).trans rfl
    have hcz25_1 : wr.cell? ⟨gb195, 1, none⟩ = some (.slice A0_1 l0_1.length c0_1) := (blk_cell BK195.out 1).trans rfl
    have hfz25_0 := blk_frozen BK195.out 0
    have hfz25_1 := blk_frozen BK195.out 1
    obtain ⟨Ao26, co26, eo26⟩ := Kd.R_slice HO_6.out
    subst eo26
    go_wp2_with (first | ((with_reducible refine gate_callee (f := 174) rfl ?_); refine gl (some 44) Try.func174 #[.int .i64 a0_0, .slice Ao26 x6_1.length co26] ?_; (with_reducible refine (spec_l01Reduce.calls k1 a0_0 _ _ x6_1 t203 t204 _ ?side1 ?side2 A23.out).mono ?_); (case side1 => repeat (first | exact (Kd.R_reads' HO_6.out).2.2 | (with_reducible refine Kd.C_alloc ?_ _) | (with_reducible refine Kd.C_drewN ?_ _) | (with_reducible refine Kd.C_drew ?_))); (case side2 => exact (Kd.R_reads' HO_6.out).2.1); rintro e w27 ⟨v205, rfl, ho0, hb⟩; refine ⟨_, rfl, ?_⟩; have HO206 := Aside0.mk (Kd.R_lower (Kd.R_new' ho0 (Kd.R_lt (rk HO_6.out))) (below_size (bks HB.out))); replace HO_6 := re HO_6 ho0 hb; replace BK195 := bb BK195 hb; replace BK196 := bb BK196 hb; replace HB := hs HB hb; (try clear hb ho0); have hcz28_0 : w27.cell? ⟨gb196, 0, none⟩ = some (.int .i64 0) := (blk_cell BK196.out 0).trans rfl; have hcz28_1 : w27.cell? ⟨gb196, 1, none⟩ = some (.slice none 0 0) := (blk_cell BK196.out 1).trans rfl; have hfz28_0 := blk_frozen BK196.out 0; have hfz28_1 := blk_frozen BK196.out 1; obtain ⟨Ao29, co29, eo29⟩ := Kd.R_slice HO206.out; subst eo29))
    refine bodyPost_ret (results_cell_row rfl _ _ gb196 29 #[.int .i64 t203, .slice Ao29 t204.length co29] (0, 0) _ rfl (by (with_reducible repeat (first | refine blk_drewN ?_ _ | refine blk_drew ?_ | refine blk_alloc ?_ _)); refine blk_put (cs := #[.int .i64 t203, .slice none 0 0]) ?_ 1 _ rfl; (with_reducible repeat (first | refine blk_drewN ?_ _ | refine blk_drew ?_ | refine blk_alloc ?_ _)); refine blk_put (cs := #[.int .i64 0, .slice none 0 0]) ?_ 0 _ rfl; (with_reducible repeat (first | refine blk_drewN ?_ _ | refine blk_drew ?_ | refine blk_alloc ?_ _)); exact BK196.out) Try.underlying29 rfl (by kernel_rfl)) rfl ?_
    exact ⟨_, by first | rfl | (simp [errW_none, errW_some] <;> rfl) | (simp [*, errW_none, errW_some] <;> rfl), by (with_reducible repeat (first | apply Kd.R_alloc | apply Kd.R_drewN | apply Kd.R_drew)); exact Kd.R_mono (Kd.R_far (p := ⟨gb196, 1, none⟩) (Kd.R_far (p := ⟨gb196, 0, none⟩) (Kd.R_types HO206.out BK196.out (by decide)) (fun _ hk => hk.2) (.int .i64 t203)) (fun _ hk => hk.2) (.slice Ao29 t204.length co29)) (fun _ hk => trivial), bks HB.out⟩
end Go.Proofs.Ytdnpkbhapdkikaa.PFnExactActOnCyclo
