-- LAID BY pp.py (a program of this repo): what the kit's print tells of this seat's functions, with contracts by hand
import Derived.Test.YtdnpkbhapdkikaaZPFnExactActOnCyclox0
import Derived.Test.YtdnpkbhapdkikaaZPFnExactActOnCyclox1
import Derived.Test.YtdnpkbhapdkikaaZPFnExactActOnCyclox2
import Derived.Test.YtdnpkbhapdkikaaZPFnExactActOnCyclox3
import Derived.Test.YtdnpkbhapdkikaaZPFnExactActOnCyclox5
namespace Go.Proofs.Ytdnpkbhapdkikaa.PFnExactActOnCyclo
open Go.RowKit Go.Proofs.YtdnpkbhapdkikaaW.PrintWords Go.Proofs.YtdnpkbhapdkikaaW.PrintLast Go.Proofs.YtdnpkbhapdkikaaW.PrintMore
attribute [local go_sem] max2_int min2_int max_two min_two max_three min_three max_four min_four   -- for this text's walks alone
set_option linter.unusedVariables false
set_option linter.unusedSimpArgs false

/-! ### spec_ActOnCyclo: function 13 -/
mutual
def spec_ActOnCyclo.j0 : Nat → Bool → Int → List Int → Int → List Int → Option (Int × List Int × Int)
 | 0, _, _, _, _, _ => none
 | k + 1, x23, x259000, x259001, x260000, x260001 => if x23 = true then (some (0, ([] : List Int), 1)) else (spec_ActOnCyclo.l0 k 0 0 0 x259000 x259001 x260000 x260001)
def spec_ActOnCyclo.l0 : Nat → Int → Int → Int → Int → List Int → Int → List Int → Option (Int × List Int × Int)
 | 0, _, _, _, _, _, _, _ => none
 | k + 1, x6, x7, x8, x259000, x259001, x260000, x260001 => if x8 < (x259001.length : Int) then (if 0 ≤ x8 then (spec_ActOnCyclo.l0 k (wrap64 (x6 + (rd x259001 x8))) (mn x7 (rd x259001 x8)) (wrap64 (x8 + 1)) x259000 x259001 x260000 x260001) else (none)) else (if x259000 = x260000 then (if x7 < 0 then (spec_ActOnCyclo.j2 k true x259000 x259001 x260000 x260001) else (spec_ActOnCyclo.j2 k (decide (x6 > 60)) x259000 x259001 x260000 x260001)) else (spec_ActOnCyclo.j2 k true x259000 x259001 x260000 x260001))
def spec_ActOnCyclo.j2 : Nat → Bool → Int → List Int → Int → List Int → Option (Int × List Int × Int)
 | 0, _, _, _, _, _ => none
 | k + 1, x58, x259000, x259001, x260000, x260001 => if x58 = true then (some (0, ([] : List Int), 2)) else ((spec_l01One.f k x260000).bind fun bt265 => ((spec_l10Residues.f k x260000).bind fun t269 => (spec_ActOnCyclo.l1 k t269 0 x259000 x259001 x260000 x260001 bt265.1 bt265.2)))
def spec_ActOnCyclo.l1 : Nat → List Int → Int → Int → List Int → Int → List Int → Int → List Int → Option (Int × List Int × Int)
 | 0, _, _, _, _, _, _, _, _ => none
 | k + 1, x10, x11, x259000, x259001, x260000, x260001, x273000, x273001 => if x11 < (x10.length : Int) then (if 0 ≤ x11 then ((spec_l01Galois.f k x260000 x260001 (rd x10 x11)).bind fun bt274 => (if x11 < (x259001.length : Int) then (spec_ActOnCyclo.l2 k x10 x11 (rd x259001 x11) x259000 x259001 x260000 x260001 x273000 x273001 bt274.1 bt274.2) else (none))) else (none)) else (some (x273000, x273001, 0))
def spec_ActOnCyclo.l2 : Nat → List Int → Int → Int → Int → List Int → Int → List Int → Int → List Int → Int → List Int → Option (Int × List Int × Int)
 | 0, _, _, _, _, _, _, _, _, _, _, _ => none
 | k + 1, x10, x11, x13, x259000, x259001, x260000, x260001, x273000, x273001, x279000, x279001 => if x13 > 0 then ((spec_l01Times.f k x273000 x273001 x279000 x279001).bind fun bt280 => (if bt280.2.2 = true then (spec_ActOnCyclo.l2 k x10 x11 (wrap64 (x13 - 1)) x259000 x259001 x260000 x260001 bt280.1 bt280.2.1 x279000 x279001) else (some (0, ([] : List Int), 3)))) else (spec_ActOnCyclo.l1 k x10 (wrap64 (x11 + 1)) x259000 x259001 x260000 x260001 x273000 x273001)
end
def spec_ActOnCyclo.f (k : Nat) (a0_0 : Int) (l0_1 : List Int) (a1_0 : Int) (l1_1 : List Int) : Option (Int × List Int × Int) := (spec_l10Is.f k a0_0 l0_1).bind fun t261 => (if t261 = true then ((spec_l01Is.f k a1_0 l1_1).bind fun t262 => (spec_ActOnCyclo.j0 k (!t262) a0_0 l0_1 a1_0 l1_1)) else (spec_ActOnCyclo.j0 k true a0_0 l0_1 a1_0 l1_1))
theorem spec_ActOnCyclo.mono_l : ∀ k, (∀ y0 y1 y2 y3 y4, LeO (spec_ActOnCyclo.j0 k y0 y1 y2 y3 y4) (spec_ActOnCyclo.j0 (k + 1) y0 y1 y2 y3 y4)) ∧ (∀ y0 y1 y2 y3 y4 y5 y6, LeO (spec_ActOnCyclo.l0 k y0 y1 y2 y3 y4 y5 y6) (spec_ActOnCyclo.l0 (k + 1) y0 y1 y2 y3 y4 y5 y6)) ∧ (∀ y0 y1 y2 y3 y4, LeO (spec_ActOnCyclo.j2 k y0 y1 y2 y3 y4) (spec_ActOnCyclo.j2 (k + 1) y0 y1 y2 y3 y4)) ∧ (∀ y0 y1 y2 y3 y4 y5 y6 y7, LeO (spec_ActOnCyclo.l1 k y0 y1 y2 y3 y4 y5 y6 y7) (spec_ActOnCyclo.l1 (k + 1) y0 y1 y2 y3 y4 y5 y6 y7)) ∧ (∀ y0 y1 y2 y3 y4 y5 y6 y7 y8 y9 y10, LeO (spec_ActOnCyclo.l2 k y0 y1 y2 y3 y4 y5 y6 y7 y8 y9 y10) (spec_ActOnCyclo.l2 (k + 1) y0 y1 y2 y3 y4 y5 y6 y7 y8 y9 y10))
 | 0 => ⟨fun _ _ _ _ _ r h => by simp [spec_ActOnCyclo.j0] at h, fun _ _ _ _ _ _ _ r h => by simp [spec_ActOnCyclo.l0] at h, fun _ _ _ _ _ r h => by simp [spec_ActOnCyclo.j2] at h, fun _ _ _ _ _ _ _ _ r h => by simp [spec_ActOnCyclo.l1] at h, fun _ _ _ _ _ _ _ _ _ _ _ r h => by simp [spec_ActOnCyclo.l2] at h⟩
 | k + 1 => by
  obtain ⟨ih0, ih1, ih2, ih3, ih4⟩ := spec_ActOnCyclo.mono_l k
  refine ⟨?_, ?_, ?_, ?_, ?_⟩
  ·intro y0 y1 y2 y3 y4
   unfold spec_ActOnCyclo.j0
   repeat' first | (with_reducible first | exact ih0 _ _ _ _ _ | exact ih1 _ _ _ _ _ _ _ | exact ih2 _ _ _ _ _ | exact ih3 _ _ _ _ _ _ _ _ | exact ih4 _ _ _ _ _ _ _ _ _ _ _ | exact spec_l01Galois.mono _ _ _ _ | exact spec_l01Is.mono _ _ _ | exact spec_l01One.mono _ _ | exact spec_l01Times.mono _ _ _ _ _ | exact spec_l10Is.mono _ _ _ | exact spec_l10Residues.mono _ _ | exact LeO.refl _ | exact LeO.none _ | refine LeO.ite ?_ ?_ | refine LeO.bind ?_ (fun _ => ?_)) | exact ih0 _ _ _ _ _ | exact ih1 _ _ _ _ _ _ _ | exact ih2 _ _ _ _ _ | exact ih3 _ _ _ _ _ _ _ _ | exact ih4 _ _ _ _ _ _ _ _ _ _ _ | exact LeO.none _ | refine LeO.ite ?_ ?_ | refine LeO.bind ?_ (fun _ => ?_)
  ·intro y0 y1 y2 y3 y4 y5 y6
   unfold spec_ActOnCyclo.l0
   repeat' first | (with_reducible first | exact ih0 _ _ _ _ _ | exact ih1 _ _ _ _ _ _ _ | exact ih2 _ _ _ _ _ | exact ih3 _ _ _ _ _ _ _ _ | exact ih4 _ _ _ _ _ _ _ _ _ _ _ | exact spec_l01Galois.mono _ _ _ _ | exact spec_l01Is.mono _ _ _ | exact spec_l01One.mono _ _ | exact spec_l01Times.mono _ _ _ _ _ | exact spec_l10Is.mono _ _ _ | exact spec_l10Residues.mono _ _ | exact LeO.refl _ | exact LeO.none _ | refine LeO.ite ?_ ?_ | refine LeO.bind ?_ (fun _ => ?_)) | exact ih0 _ _ _ _ _ | exact ih1 _ _ _ _ _ _ _ | exact ih2 _ _ _ _ _ | exact ih3 _ _ _ _ _ _ _ _ | exact ih4 _ _ _ _ _ _ _ _ _ _ _ | exact LeO.none _ | refine LeO.ite ?_ ?_ | refine LeO.bind ?_ (fun _ => ?_)
  ·intro y0 y1 y2 y3 y4
   unfold spec_ActOnCyclo.j2
   repeat' first | (with_reducible first | exact ih0 _ _ _ _ _ | exact ih1 _ _ _ _ _ _ _ | exact ih2 _ _ _ _ _ | exact ih3 _ _ _ _ _ _ _ _ | exact ih4 _ _ _ _ _ _ _ _ _ _ _ | exact spec_l01Galois.mono _ _ _ _ | exact spec_l01Is.mono _ _ _ | exact spec_l01One.mono _ _ | exact spec_l01Times.mono _ _ _ _ _ | exact spec_l10Is.mono _ _ _ | exact spec_l10Residues.mono _ _ | exact LeO.refl _ | exact LeO.none _ | refine LeO.ite ?_ ?_ | refine LeO.bind ?_ (fun _ => ?_)) | exact ih0 _ _ _ _ _ | exact ih1 _ _ _ _ _ _ _ | exact ih2 _ _ _ _ _ | exact ih3 _ _ _ _ _ _ _ _ | exact ih4 _ _ _ _ _ _ _ _ _ _ _ | exact LeO.none _ | refine LeO.ite ?_ ?_ | refine LeO.bind ?_ (fun _ => ?_)
  ·intro y0 y1 y2 y3 y4 y5 y6 y7
   unfold spec_ActOnCyclo.l1
   repeat' first | (with_reducible first | exact ih0 _ _ _ _ _ | exact ih1 _ _ _ _ _ _ _ | exact ih2 _ _ _ _ _ | exact ih3 _ _ _ _ _ _ _ _ | exact ih4 _ _ _ _ _ _ _ _ _ _ _ | exact spec_l01Galois.mono _ _ _ _ | exact spec_l01Is.mono _ _ _ | exact spec_l01One.mono _ _ | exact spec_l01Times.mono _ _ _ _ _ | exact spec_l10Is.mono _ _ _ | exact spec_l10Residues.mono _ _ | exact LeO.refl _ | exact LeO.none _ | refine LeO.ite ?_ ?_ | refine LeO.bind ?_ (fun _ => ?_)) | exact ih0 _ _ _ _ _ | exact ih1 _ _ _ _ _ _ _ | exact ih2 _ _ _ _ _ | exact ih3 _ _ _ _ _ _ _ _ | exact ih4 _ _ _ _ _ _ _ _ _ _ _ | exact LeO.none _ | refine LeO.ite ?_ ?_ | refine LeO.bind ?_ (fun _ => ?_)
  ·intro y0 y1 y2 y3 y4 y5 y6 y7 y8 y9 y10
   unfold spec_ActOnCyclo.l2
   repeat' first | (with_reducible first | exact ih0 _ _ _ _ _ | exact ih1 _ _ _ _ _ _ _ | exact ih2 _ _ _ _ _ | exact ih3 _ _ _ _ _ _ _ _ | exact ih4 _ _ _ _ _ _ _ _ _ _ _ | exact spec_l01Galois.mono _ _ _ _ | exact spec_l01Is.mono _ _ _ | exact spec_l01One.mono _ _ | exact spec_l01Times.mono _ _ _ _ _ | exact spec_l10Is.mono _ _ _ | exact spec_l10Residues.mono _ _ | exact LeO.refl _ | exact LeO.none _ | refine LeO.ite ?_ ?_ | refine LeO.bind ?_ (fun _ => ?_)) | exact ih0 _ _ _ _ _ | exact ih1 _ _ _ _ _ _ _ | exact ih2 _ _ _ _ _ | exact ih3 _ _ _ _ _ _ _ _ | exact ih4 _ _ _ _ _ _ _ _ _ _ _ | exact LeO.none _ | refine LeO.ite ?_ ?_ | refine LeO.bind ?_ (fun _ => ?_)
theorem spec_ActOnCyclo.mono : ∀ a0 a1 a2 a3 k, LeO (spec_ActOnCyclo.f k a0 a1 a2 a3) (spec_ActOnCyclo.f (k + 1) a0 a1 a2 a3) := by
 intro a0 a1 a2 a3 k
 obtain ⟨ih0, ih1, ih2, ih3, ih4⟩ := spec_ActOnCyclo.mono_l k
 unfold spec_ActOnCyclo.f
 repeat' first | (with_reducible first | exact ih0 _ _ _ _ _ | exact ih1 _ _ _ _ _ _ _ | exact ih2 _ _ _ _ _ | exact ih3 _ _ _ _ _ _ _ _ | exact ih4 _ _ _ _ _ _ _ _ _ _ _ | exact spec_l01Galois.mono _ _ _ _ | exact spec_l01Is.mono _ _ _ | exact spec_l01One.mono _ _ | exact spec_l01Times.mono _ _ _ _ _ | exact spec_l10Is.mono _ _ _ | exact spec_l10Residues.mono _ _ | exact LeO.refl _ | exact LeO.none _ | refine LeO.ite ?_ ?_ | refine LeO.bind ?_ (fun _ => ?_)) | exact ih0 _ _ _ _ _ | exact ih1 _ _ _ _ _ _ _ | exact ih2 _ _ _ _ _ | exact ih3 _ _ _ _ _ _ _ _ | exact ih4 _ _ _ _ _ _ _ _ _ _ _ | exact LeO.none _ | refine LeO.ite ?_ ?_ | refine LeO.bind ?_ (fun _ => ?_)
def spec_ActOnCyclo.T11 : Bool × List (List Nat × List Nat) := (true, [([], []), ([0], [0]), ([1], [1]), ([], []), ([3], [3]), ([4, 2], [4]), ([], []), ([6, 2, 5, 0, 1, 2, 6], [2, 6]), ([5, 7, 0, 1, 2, 3, 4, 5, 6, 7], [5])])
def spec_ActOnCyclo.B11 : List Nat := [0, 1, 3, 0, 8, 31, 0, 127, 255]
theorem spec_ActOnCyclo.tab11 : rtab .any (opsOf Try.f13 11) = spec_ActOnCyclo.T11 := by kernel_rfl
theorem spec_ActOnCyclo.bits11 : waitsOk spec_ActOnCyclo.T11.2 spec_ActOnCyclo.B11 = true := by kernel_rfl
def spec_ActOnCyclo.T15 : Bool × List (List Nat × List Nat) := (true, [([], []), ([], []), ([], []), ([1, 2], [1, 2]), ([3], [3]), ([0, 4], [0, 4]), ([], []), ([6, 5, 5, 0, 1, 2, 3, 4, 5, 6], [5, 6])])
def spec_ActOnCyclo.B15 : List Nat := [0, 0, 0, 6, 14, 31, 0, 127]
theorem spec_ActOnCyclo.tab15 : rtab .any (opsOf Try.f13 15) = spec_ActOnCyclo.T15 := by kernel_rfl
theorem spec_ActOnCyclo.bits15 : waitsOk spec_ActOnCyclo.T15.2 spec_ActOnCyclo.B15 = true := by kernel_rfl
set_option maxHeartbeats 8000000 in
set_option maxRecDepth 100000 in
theorem spec_ActOnCyclo.calls (k : Nat) (a0_0 : Int) (A0_1 : Option Addr) (c0_1 : Nat) (l0_1 : List Int) (a1_0 : Int) (A1_1 : Option Addr) (c1_1 : Nat) (l1_1 : List Int) (r1 : Int) (r2 : List Int) (r3 : Int) (w : World) (hr0_1 : Kd.C (Kd.int .i64) w A0_1 l0_1.length l0_1) (hc0_1 : l0_1.length ≤ c0_1) (hr1_1 : Kd.C (Kd.int .i64) w A1_1 l1_1.length l1_1) (hc1_1 : l1_1.length ≤ c1_1) (h : spec_ActOnCyclo.f k a0_0 l0_1 a1_0 l1_1 = some (r1, r2, r3)) :
  Calls Try.prog 13 #[.agg #[.int .i64 a0_0, .slice A0_1 l0_1.length c0_1], .agg #[.int .i64 a1_0, .slice A1_1 l1_1.length c1_1]] w fun e w' => ∃ v1_ : Value, e = .returned (.tuple #[.agg #[.int .i64 r1, v1_], .int .i64 r3]) ∧ Kd.R (Kd.int .i64) 2 w' w.heap.size (fun _ => True) v1_ r2 ∧ Below w.heap.size w w' := by
 have hu32 := Try.underlying32
 have hu29 := Try.underlying29
 have HR0_1 := Aside0.mk hr0_1
 have HC0_1 := Aside0.mk hc0_1
 clear hr0_1 hc0_1
 have HR1_1 := Aside0.mk hr1_1
 have HC1_1 := Aside0.mk hc1_1
 clear hr1_1 hc1_1
 have HB := Aside0.mk (Below.refl w.heap.size w)
 have H := h
 unfold spec_ActOnCyclo.f at H
 clear h
 have HC3 := Aside0.mk H
 clear H
 go_enter Try.func13, Try.ntmps13
 go_upto_region 1 with (first | ((with_reducible refine gate_dst (N := 2) rfl ?_); refine bx 2 #[.int .i64 a0_0, .slice A0_1 l0_1.length c0_1] 32 (fun gb258 hg w4 hbox hb => ?_); have BK258 := Aside0.mk hbox; have GW258 := ge HB hg; have GE258 := GW258; replace HB := hs HB hb; clear hb hbox hg) | ((with_reducible refine gate_dst (N := 3) rfl ?_); refine bx 3 #[.int .i64 a1_0, .slice A1_1 l1_1.length c1_1] 29 (fun gb259 hg w5 hbox hb => ?_); have BK259 := Aside0.mk hbox; have GW259 := ge HB hg; have GE259 := GW259; obtain ⟨NB258_259, NB259_258⟩ := nb BK258 hg; replace BK258 := bb BK258 hb; replace HB := hs HB hb; clear hb hbox hg) | ((with_reducible refine gate_dst (N := 4) rfl ?_); refine bx 4 #[.int .i64 0, .slice none 0 0] 29 (fun gb260 hg w6 hbox hb => ?_); have BK260 := Aside0.mk hbox; have GW260 := ge HB hg; have GE260 := GW260; obtain ⟨NB258_260, NB260_258⟩ := nb BK258 hg; obtain ⟨NB259_260, NB260_259⟩ := nb BK259 hg; replace BK258 := bb BK258 hb; replace BK259 := bb BK259 hb; replace HB := hs HB hb; clear hb hbox hg))
 (try simp only [Act.put, List.setIfInBounds_toArray, List.set_cons_zero, List.set_cons_succ])
 go_cut [23] (fun v23 wc => ∃ (kq : Nat) (x23_2 : Bool), v23 = .bool x23_2 ∧ Aside0 (spec_ActOnCyclo.j0 kq x23_2 a0_0 l0_1 a1_0 l1_1 = some (r1, r2, r3)) ∧ Aside0 (kq ≤ k) ∧ Aside0 (wc.heap[gb258]? = some (.cells #[.int .i64 a0_0, (.slice A0_1 l0_1.length c0_1)] 32 (0, 0))) ∧ Aside0 (wc.heap[gb259]? = some (.cells #[.int .i64 a1_0, (.slice A1_1 l1_1.length c1_1)] 29 (0, 0))) ∧ Aside0 (wc.heap[gb260]? = some (.cells #[.int .i64 0, (.slice none 0 0)] 29 (0, 0))) ∧ Aside0 (Below w.heap.size w wc))
 case first =>
  have H := HC3.out
  clear HC3
  replace H := Option.bind_eq_some_iff.mp H
  obtain ⟨t261, A70, H⟩ := H
  try dsimp only at H
  have A7 := Aside0.mk A70
  clear A70
  by_cases c8 : t261 = true
  ·subst c8
   have H1 : ((spec_l01Is.f k a1_0 l1_1).bind fun t262 => (spec_ActOnCyclo.j0 k (!t262) a0_0 l0_1 a1_0 l1_1)) = some (r1, r2, r3) := by rw [if_pos rfl] at H; exact H
   clear H
   have H := H1
   clear H1
   replace H := Option.bind_eq_some_iff.mp H
   obtain ⟨t262, A90, H⟩ := H
   try dsimp only at H
   have A9 := Aside0.mk A90
   clear A90
   have H' := Aside0.mk H
   clear H
   have hnb10 := NB258_259.out
   have hnc10 := NB259_258.out
   have hnb11 := NB258_260.out
   have hnc11 := NB260_258.out
   have hcz12_0 : w6.cell? ⟨gb258, 0, none⟩ = some (.int .i64 a0_0) := (blk_cell BK258.out 0).trans rfl
   have hcz12_1 : w6.cell? ⟨gb258, 1, none⟩ = some (.slice A0_1 l0_1.length c0_1) := (blk_cell BK258.out 1).trans rfl
   have hfz12_0 := blk_frozen BK258.out 0
   have hfz12_1 := blk_frozen BK258.out 1
   go_wp2_with (first | ((with_reducible refine gate_callee (f := 95) rfl ?_); refine gl (some 17) Try.func95 #[.agg #[.int .i64 a0_0, .slice A0_1 l0_1.length c0_1]] ?_; (with_reducible refine (spec_l10Is.calls k a0_0 _ _ l0_1 true _ ?side1 ?side2 A7.out).mono ?_); (case side1 => repeat (first | exact (Kd.C_below HR0_1.out HB.out) | (with_reducible refine Kd.C_alloc ?_ _) | (with_reducible refine Kd.C_drewN ?_ _) | (with_reducible refine Kd.C_drew ?_))); (case side2 => exact HC0_1.out); rintro e w13 ⟨rfl, hb⟩; refine ⟨_, rfl, ?_⟩; replace BK258 := bb BK258 hb; replace BK259 := bb BK259 hb; replace BK260 := bb BK260 hb; replace HB := hs HB hb; (try clear hb); have hnb14 := NB259_260.out; have hnc14 := NB260_259.out; have hcz15_0 : w13.cell? ⟨gb259, 0, none⟩ = some (.int .i64 a1_0) := (blk_cell BK259.out 0).trans rfl; have hcz15_1 : w13.cell? ⟨gb259, 1, none⟩ = some (.slice A1_1 l1_1.length c1_1) := (blk_cell BK259.out 1).trans rfl; have hfz15_0 := blk_frozen BK259.out 0; have hfz15_1 := blk_frozen BK259.out 1) | (go_at_call 96; (with_reducible refine (spec_l01Is.calls k a1_0 _ _ l1_1 t262 _ ?side1 ?side2 A9.out).mono ?_); (case side1 => repeat (first | exact (Kd.C_below HR1_1.out HB.out) | (with_reducible refine Kd.C_alloc ?_ _) | (with_reducible refine Kd.C_drewN ?_ _) | (with_reducible refine Kd.C_drew ?_))); (case side2 => exact HC1_1.out); rintro e w16 ⟨rfl, hb⟩; replace BK258 := bb BK258 hb; replace BK259 := bb BK259 hb; replace BK260 := bb BK260 hb; replace HB := hs HB hb; (try clear hb)))
   go_meet
   case rel => exact ⟨_, (!t262), (by first | rfl | (simp; done) | (simp [*]; done)), H', ⟨by first | omega | exact Nat.le_refl _⟩, ⟨pk BK258.out⟩, ⟨pk BK259.out⟩, ⟨pk BK260.out⟩, ⟨bks HB.out⟩⟩
  ·replace c8 := Bool.eq_false_iff.mpr c8
   subst c8
   have H1 : (spec_ActOnCyclo.j0 k true a0_0 l0_1 a1_0 l1_1) = some (r1, r2, r3) := by rw [if_neg (show ¬ (false = true) by decide)] at H; exact H
   clear H
   have H := H1
   clear H1
   have H' := Aside0.mk H
   clear H
   have hnb17 := NB258_259.out
   have hnc17 := NB259_258.out
   have hnb18 := NB258_260.out
   have hnc18 := NB260_258.out
   have hcz19_0 : w6.cell? ⟨gb258, 0, none⟩ = some (.int .i64 a0_0) := (blk_cell BK258.out 0).trans rfl
   have hcz19_1 : w6.cell? ⟨gb258, 1, none⟩ = some (.slice A0_1 l0_1.length c0_1) := (blk_cell BK258.out 1).trans rfl
   have hfz19_0 := blk_frozen BK258.out 0
   have hfz19_1 := blk_frozen BK258.out 1
   go_wp2_with (first | ((with_reducible refine gate_callee (f := 95) rfl ?_); refine gl (some 17) Try.func95 #[.agg #[.int .i64 a0_0, .slice A0_1 l0_1.length c0_1]] ?_; (with_reducible refine (spec_l10Is.calls k a0_0 _ _ l0_1 false _ ?side1 ?side2 A7.out).mono ?_); (case side1 => repeat (first | exact (Kd.C_below HR0_1.out HB.out) | (with_reducible refine Kd.C_alloc ?_ _) | (with_reducible refine Kd.C_drewN ?_ _) | (with_reducible refine Kd.C_drew ?_))); (case side2 => exact HC0_1.out); rintro e w20 ⟨rfl, hb⟩; refine ⟨_, rfl, ?_⟩; replace BK258 := bb BK258 hb; replace BK259 := bb BK259 hb; replace BK260 := bb BK260 hb; replace HB := hs HB hb; (try clear hb)))
   go_meet
   case rel => exact ⟨_, (true), (by first | rfl | (simp; done) | (simp [*]; done)), H', ⟨by first | omega | exact Nat.le_refl _⟩, ⟨pk BK258.out⟩, ⟨pk BK259.out⟩, ⟨pk BK260.out⟩, ⟨bks HB.out⟩⟩
 case rest =>
  clear HC3
  try clear c1; try clear p2; try clear c8; try clear c9; try clear c10; try clear c11; try clear c13; try clear c14; try clear c17; try clear c18; try clear hcz12_0; try clear hcz12_1; try clear hcz15_0; try clear hcz15_1; try clear hcz19_0; try clear hcz19_1; try clear hfz12_0; try clear hfz12_1; try clear hfz15_0; try clear hfz15_1; try clear hfz19_0; try clear hfz19_1
  obtain ⟨kq, x23_2, rfl, HA, HJ2, BK258, BK259, BK260, HB⟩ := hcut
  cases kq with
  | zero => exact absurd HA.out (by simp [spec_ActOnCyclo.j0])
  | succ kj2 =>
   have H := HA.out
   clear HA
   simp only [spec_ActOnCyclo.j0] at H
   by_cases c21 : x23_2 = true
   ·subst c21
    have H1 : (some (0, ([] : List Int), 1)) = some (r1, r2, r3) := by rw [if_pos rfl] at H; exact H
    clear H
    have H := H1
    clear H1
    simp only [Option.some.injEq, Prod.mk.injEq] at H
    obtain ⟨rfl, rfl, rfl⟩ := H
    have hnb22 := NB260_258.out
    have hnc22 := NB258_260.out
    have hnb23 := NB260_259.out
    have hnc23 := NB259_260.out
    have hcz24_0 : wc.cell? ⟨gb260, 0, none⟩ = some (.int .i64 0) := (blk_cell BK260.out 0).trans rfl
    have hcz24_1 : wc.cell? ⟨gb260, 1, none⟩ = some (.slice none 0 0) := (blk_cell BK260.out 1).trans rfl
    have hfz24_0 := blk_frozen BK260.out 0
    have hfz24_1 := blk_frozen BK260.out 1
    go_wp2
    refine bodyPost_ret (results_ct rfl _ _ gb260 29 #[.int .i64 0, .slice none 0 0] (0, 0) _ rfl (by (with_reducible repeat (first | refine blk_drewN ?_ _ | refine blk_drew ?_ | refine blk_alloc ?_ _)); refine blk_put (cs := #[.int .i64 0, .slice none 0 0]) ?_ 1 _ rfl; (with_reducible repeat (first | refine blk_drewN ?_ _ | refine blk_drew ?_ | refine blk_alloc ?_ _)); refine blk_put (cs := #[.int .i64 0, .slice none 0 0]) ?_ 0 _ rfl; (with_reducible repeat (first | refine blk_drewN ?_ _ | refine blk_drew ?_ | refine blk_alloc ?_ _)); exact BK260.out) Try.underlying29 rfl (by kernel_rfl)) rfl ?_
    exact ⟨_, by first | rfl | (simp [errW_none, errW_some] <;> rfl) | (simp [*, errW_none, errW_some] <;> rfl), by first | exact Kd.R_nil _ _ _ _ _ | exact Kd.N_nil _ _ _ _ _ | exact Kd.V_nil _ _ _ _ _ | exact Kd.Q_nil _ _ _ _ _ | exact Kd.S_nil _ _ _ _ _, bks HB.out⟩
   ·replace c21 := Bool.eq_false_iff.mpr c21
    subst c21
    have H1 : (spec_ActOnCyclo.l0 kj2 0 0 0 a0_0 l0_1 a1_0 l1_1) = some (r1, r2, r3) := by rw [if_neg (show ¬ (false = true) by decide)] at H; exact H
    clear H
    have H := H1
    clear H1
    have H' := Aside0.mk H
    clear H
    go_wp2
    go_loopg [6, 7, 8] kj2 (fun kq v6 v7 v8 w' => ∃ (x6_2 : Int) (x7_2 : Int) (x8_2 : Int), v6 = .int .i64 x6_2 ∧ v7 = .int .i64 x7_2 ∧ v8 = .int .i64 x8_2 ∧ Aside0 (spec_ActOnCyclo.l0 kq x6_2 x7_2 x8_2 a0_0 l0_1 a1_0 l1_1 = some (r1, r2, r3)) ∧ Aside0 (kq ≤ kj2) ∧ Aside0 (w'.heap[gb258]? = some (.cells #[.int .i64 a0_0, (.slice A0_1 l0_1.length c0_1)] 32 (0, 0))) ∧ Aside0 (w'.heap[gb259]? = some (.cells #[.int .i64 a1_0, (.slice A1_1 l1_1.length c1_1)] 29 (0, 0))) ∧ Aside0 (w'.heap[gb260]? = some (.cells #[.int .i64 0, (.slice none 0 0)] 29 (0, 0))) ∧ Aside0 (Below w.heap.size w w'))
    case atStart => exact ⟨(0), (0), (0), (by first | rfl | (simp; done) | (simp [*]; done)), (by first | rfl | (simp; done) | (simp [*]; done)), (by first | rfl | (simp; done) | (simp [*]; done)), H', ⟨Nat.le_refl _⟩, ⟨pk BK258.out⟩, ⟨pk BK259.out⟩, ⟨pk BK260.out⟩, ⟨bks HB.out⟩⟩
    case round =>
     clear H'
     try clear c1; try clear c2; try clear p2; try clear c8; try clear c9; try clear c10; try clear c11; try clear c13; try clear c14; try clear c17; try clear c18; try clear c21; try clear c22; try clear c23; try clear hcz12_0; try clear hcz12_1; try clear hcz15_0; try clear hcz15_1; try clear hcz19_0; try clear hcz19_1; try clear hcz24_0; try clear hcz24_1; try clear hfz12_0; try clear hfz12_1; try clear hfz15_0; try clear hfz15_1; try clear hfz19_0; try clear hfz19_1; try clear hfz24_0; try clear hfz24_1; try clear p2
     obtain ⟨x6_2, x7_2, x8_2, rfl, rfl, rfl, HA, HK2, BK258, BK259, BK260, HB⟩ := hrel
     cases gk with
     | zero => exact absurd HA.out (by simp [spec_ActOnCyclo.l0])
     | succ k2 =>
      have H := HA.out
      clear HA
      simp only [spec_ActOnCyclo.l0] at H
      by_cases c25 : x8_2 < (l0_1.length : Int)
      ·rw [if_pos c25] at H
       have c25b0 : decide (x8_2 < (l0_1.length : Int)) = true := decide_eq_true c25
       clear c25
       by_cases c26 : 0 ≤ x8_2
       rotate_left
       ·rw [if_neg c26] at H; exact absurd H (by simp)
       rw [if_pos c26] at H
       have c26b0 : decide (0 ≤ x8_2) = true := decide_eq_true c26
       clear c26
       obtain ⟨ji27, hji27⟩ : ∃ j_ : Int, (mn x7_2 (rd l0_1 x8_2)) = j_ := ⟨_, rfl⟩
       replace H : (spec_ActOnCyclo.l0 k2 (wrap64 (x6_2 + (rd l0_1 x8_2))) ji27 (wrap64 (x8_2 + 1)) a0_0 l0_1 a1_0 l1_1) = some (r1, r2, r3) := by first | (rw [hji27] at H; exact H) | (simp only [hji27] at H ⊢; exact H)
       have hji27_ : (if (rd l0_1 x8_2) < x7_2 then (rd l0_1 x8_2) else x7_2) = ji27 := hji27
       have H' := Aside0.mk H
       clear H
       have hnb28 := NB258_259.out
       have hnc28 := NB259_258.out
       have hnb29 := NB258_260.out
       have hnc29 := NB260_258.out
       have hcz30_0 : wr.cell? ⟨gb258, 0, none⟩ = some (.int .i64 a0_0) := (blk_cell BK258.out 0).trans rfl
       have hcz30_1 : wr.cell? ⟨gb258, 1, none⟩ = some (.slice A0_1 l0_1.length c0_1) := (blk_cell BK258.out 1).trans rfl
       have hfz30_0 := blk_frozen BK258.out 0
       have hfz30_1 := blk_frozen BK258.out 1
       have p263 : 0 ≤ (x8_2 : Int) := of_decide_eq_true (by first | (with_reducible assumption) | assumption)
       have q263 : x8_2 < (l0_1.length : Int) := of_decide_eq_true (by first | (with_reducible assumption) | assumption)
       obtain ⟨ad263, e263, hx263_0⟩ := Kd.at_int HR0_1.out x8_2 p263 q263
       cases e263
       replace hx263_0 := (HB.out.cell (World.block_lt_of_cell? w _ hx263_0)).trans hx263_0
       replace p263 := eq_true p263
       replace q263 := eq_true q263
       have p264 : 0 ≤ (x8_2 : Int) := of_decide_eq_true (by first | (with_reducible assumption) | assumption)
       have q264 : x8_2 < (l0_1.length : Int) := of_decide_eq_true (by first | (with_reducible assumption) | assumption)
       obtain ⟨ad264, e264, hx264_0⟩ := Kd.at_int HR0_1.out x8_2 p264 q264
       obtain rfl : ad263 = ad264 := (by injection e264)
       replace hx264_0 := (HB.out.cell (World.block_lt_of_cell? w _ hx264_0)).trans hx264_0
       replace p264 := eq_true p264
       replace q264 := eq_true q264
       go_wp2
       go_roundg k2
       case measure => have := HJ2.out; have := HK2.out; omega
       case rel => exact ⟨(wrap64 (x6_2 + (rd l0_1 x8_2))), (ji27), (wrap64 (x8_2 + 1)), (by first | rfl | (simp; done) | (simp [*]; done)), (by first | rfl | (simp; done) | (simp only [← hji27] <;> (first | rfl | simp)) | (simp [*]; done)), (by first | rfl | (simp; done) | (simp [*]; done)), H', ⟨by have := HJ2.out; have := HK2.out; omega⟩, ⟨pk BK258.out⟩, ⟨pk BK259.out⟩, ⟨pk BK260.out⟩, ⟨bks HB.out⟩⟩
      ·rw [if_neg c25] at H
       have c25b0 : decide (x8_2 < (l0_1.length : Int)) = false := decide_eq_false c25
       clear c25
       have HC31 := Aside0.mk H
       clear H
       have hnb32 := NB258_259.out
       have hnc32 := NB259_258.out
       have hnb33 := NB258_260.out
       have hnc33 := NB260_258.out
       have hcz34_0 : wr.cell? ⟨gb258, 0, none⟩ = some (.int .i64 a0_0) := (blk_cell BK258.out 0).trans rfl
       have hcz34_1 : wr.cell? ⟨gb258, 1, none⟩ = some (.slice A0_1 l0_1.length c0_1) := (blk_cell BK258.out 1).trans rfl
       have hfz34_0 := blk_frozen BK258.out 0
       have hfz34_1 := blk_frozen BK258.out 1
       go_upto_region 9 with (fail)
       go_cut [58] (fun v58 wc => ∃ (kq : Nat) (x58_30 : Bool), v58 = .bool x58_30 ∧ Aside0 (spec_ActOnCyclo.j2 kq x58_30 a0_0 l0_1 a1_0 l1_1 = some (r1, r2, r3)) ∧ Aside0 (kq ≤ k2) ∧ Aside0 (wc.heap[gb258]? = some (.cells #[.int .i64 a0_0, (.slice A0_1 l0_1.length c0_1)] 32 (0, 0))) ∧ Aside0 (wc.heap[gb259]? = some (.cells #[.int .i64 a1_0, (.slice A1_1 l1_1.length c1_1)] 29 (0, 0))) ∧ Aside0 (wc.heap[gb260]? = some (.cells #[.int .i64 0, (.slice none 0 0)] 29 (0, 0))) ∧ Aside0 (Below w.heap.size w wc))
       case first =>
        have H := HC31.out
        clear HC31
        by_cases c35 : a0_0 = a1_0
        ·rw [if_pos c35] at H
         have c35b0 : (a0_0 == a1_0) = true := beq_iff_eq.mpr c35
         have c35b1 : (a0_0 != a1_0) = false := bne_eq_false_iff_eq.mpr c35
         clear c35
         (first | rw [c35b0] | (simp only [i64_w, i32_w]; rw [c35b0]) | skip)
         by_cases c36 : x7_2 < 0
         ·rw [if_pos c36] at H
          have c36b0 : decide (x7_2 < 0) = true := decide_eq_true c36
          clear c36
          have H' := Aside0.mk H
          clear H
          have hnb37 := NB258_259.out
          have hnc37 := NB259_258.out
          have hnb38 := NB258_260.out
          have hnc38 := NB260_258.out
          have hcz39_0 : wr.cell? ⟨gb258, 0, none⟩ = some (.int .i64 a0_0) := (blk_cell BK258.out 0).trans rfl
          have hcz39_1 : wr.cell? ⟨gb258, 1, none⟩ = some (.slice A0_1 l0_1.length c0_1) := (blk_cell BK258.out 1).trans rfl
          have hfz39_0 := blk_frozen BK258.out 0
          have hfz39_1 := blk_frozen BK258.out 1
          have hnb40 := NB259_260.out
          have hnc40 := NB260_259.out
          have hcz41_0 : wr.cell? ⟨gb259, 0, none⟩ = some (.int .i64 a1_0) := (blk_cell BK259.out 0).trans rfl
          have hcz41_1 : wr.cell? ⟨gb259, 1, none⟩ = some (.slice A1_1 l1_1.length c1_1) := (blk_cell BK259.out 1).trans rfl
          have hfz41_0 := blk_frozen BK259.out 0
          have hfz41_1 := blk_frozen BK259.out 1
          go_wp2
          go_meet
          case rel => exact ⟨_, (true), (by first | rfl | (simp; done) | (simp [*]; done)), H', ⟨by have := HJ2.out; have := HK2.out; first | omega | exact Nat.le_refl _⟩, ⟨pk BK258.out⟩, ⟨pk BK259.out⟩, ⟨pk BK260.out⟩, ⟨bks HB.out⟩⟩
         ·rw [if_neg c36] at H
          have c36b0 : decide (x7_2 < 0) = false := decide_eq_false c36
          clear c36
          have H' := Aside0.mk H
          clear H
          have hnb42 := NB258_259.out
          have hnc42 := NB259_258.out
          have hnb43 := NB258_260.out
          have hnc43 := NB260_258.out
          have hcz44_0 : wr.cell? ⟨gb258, 0, none⟩ = some (.int .i64 a0_0) := (blk_cell BK258.out 0).trans rfl
          have hcz44_1 : wr.cell? ⟨gb258, 1, none⟩ = some (.slice A0_1 l0_1.length c0_1) := (blk_cell BK258.out 1).trans rfl
          have hfz44_0 := blk_frozen BK258.out 0
          have hfz44_1 := blk_frozen BK258.out 1
          have hnb45 := NB259_260.out
          have hnc45 := NB260_259.out
          have hcz46_0 : wr.cell? ⟨gb259, 0, none⟩ = some (.int .i64 a1_0) := (blk_cell BK259.out 0).trans rfl
          have hcz46_1 : wr.cell? ⟨gb259, 1, none⟩ = some (.slice A1_1 l1_1.length c1_1) := (blk_cell BK259.out 1).trans rfl
          have hfz46_0 := blk_frozen BK259.out 0
          have hfz46_1 := blk_frozen BK259.out 1
          go_wp2
          go_meet
          case rel => exact ⟨_, (decide (x6_2 > 60)), (by first | rfl | (simp; done) | (simp [*]; done)), H', ⟨by have := HJ2.out; have := HK2.out; first | omega | exact Nat.le_refl _⟩, ⟨pk BK258.out⟩, ⟨pk BK259.out⟩, ⟨pk BK260.out⟩, ⟨bks HB.out⟩⟩
        ·rw [if_neg c35] at H
         have c35b0 : (a0_0 == a1_0) = false := beq_eq_false_iff_ne.mpr c35
         have c35b1 : (a0_0 != a1_0) = true := bne_iff_ne.mpr c35
         (first | rw [c35b0] | (simp only [i64_w, i32_w]; rw [c35b0]) | skip)
         have H' := Aside0.mk H
         clear H
         have hnb47 := NB258_259.out
         have hnc47 := NB259_258.out
         have hnb48 := NB258_260.out
         have hnc48 := NB260_258.out
         have hcz49_0 : wr.cell? ⟨gb258, 0, none⟩ = some (.int .i64 a0_0) := (blk_cell BK258.out 0).trans rfl
         have hcz49_1 : wr.cell? ⟨gb258, 1, none⟩ = some (.slice A0_1 l0_1.length c0_1) := (blk_cell BK258.out 1).trans rfl
         have hfz49_0 := blk_frozen BK258.out 0
         have hfz49_1 := blk_frozen BK258.out 1
         have hnb50 := NB259_260.out
         have hnc50 := NB260_259.out
         have hcz51_0 : wr.cell? ⟨gb259, 0, none⟩ = some (.int .i64 a1_0) := (blk_cell BK259.out 0).trans rfl
         have hcz51_1 : wr.cell? ⟨gb259, 1, none⟩ = some (.slice A1_1 l1_1.length c1_1) := (blk_cell BK259.out 1).trans rfl
         have hfz51_0 := blk_frozen BK259.out 0
         have hfz51_1 := blk_frozen BK259.out 1
         go_wp2
         go_meet
         case rel => exact ⟨_, (true), (by first | rfl | (simp; done) | (simp [*]; done)), H', ⟨by have := HJ2.out; have := HK2.out; first | omega | exact Nat.le_refl _⟩, ⟨pk BK258.out⟩, ⟨pk BK259.out⟩, ⟨pk BK260.out⟩, ⟨bks HB.out⟩⟩
       case rest =>
        clear HC31
        try clear c1; try clear c2; try clear p2; try clear q2; try clear hx2; try clear c3; try clear c4; try clear c5; try clear p6; try clear c8; try clear c9; try clear c10; try clear c11; try clear c13; try clear c14; try clear c17; try clear c18; try clear c21; try clear c22; try clear c23; try clear c25; try clear c25b0; try clear c26; try clear c26b0; try clear p26; try clear q26; try clear hx26; try clear c28; try clear c29; try clear c32; try clear c33; try clear c35; try clear c35b0; try clear c35b1; try clear c36; try clear c36b0; try clear c37; try clear c38; try clear c40; try clear c42; try clear c43; try clear c45; try clear c47; try clear c48; try clear c50; try clear hcz12_0; try clear hcz12_1; try clear hcz15_0; try clear hcz15_1; try clear hcz19_0; try clear hcz19_1; try clear hcz24_0; try clear hcz24_1; try clear hcz30_0; try clear hcz30_1; try clear hcz34_0; try clear hcz34_1; try clear hcz39_0; try clear hcz39_1; try clear hcz41_0; try clear hcz41_1; try clear hcz44_0; try clear hcz44_1; try clear hcz46_0; try clear hcz46_1; try clear hcz49_0; try clear hcz49_1; try clear hcz51_0; try clear hcz51_1; try clear hfz12_0; try clear hfz12_1; try clear hfz15_0; try clear hfz15_1; try clear hfz19_0; try clear hfz19_1; try clear hfz24_0; try clear hfz24_1; try clear hfz30_0; try clear hfz30_1; try clear hfz34_0; try clear hfz34_1; try clear hfz39_0; try clear hfz39_1; try clear hfz41_0; try clear hfz41_1; try clear hfz44_0; try clear hfz44_1; try clear hfz46_0; try clear hfz46_1; try clear hfz49_0; try clear hfz49_1; try clear hfz51_0; try clear hfz51_1; try clear hx263_0; try clear hx264_0; try clear p2; try clear p263; try clear p264; try clear q263; try clear q264
        obtain ⟨kq, x58_30, rfl, HA, HJ30, BK258, BK259, BK260, HB⟩ := hcut
        cases kq with
        | zero => exact absurd HA.out (by simp [spec_ActOnCyclo.j2])
        | succ kj30 =>
         have H := HA.out
         clear HA
         simp only [spec_ActOnCyclo.j2] at H
         by_cases c52 : x58_30 = true
         ·subst c52
          have H1 : (some (0, ([] : List Int), 2)) = some (r1, r2, r3) := by rw [if_pos rfl] at H; exact H
          clear H
          have H := H1
          clear H1
          simp only [Option.some.injEq, Prod.mk.injEq] at H
          obtain ⟨rfl, rfl, rfl⟩ := H
          have hnb53 := NB260_258.out
          have hnc53 := NB258_260.out
          have hnb54 := NB260_259.out
          have hnc54 := NB259_260.out
          have hcz55_0 : wc.cell? ⟨gb260, 0, none⟩ = some (.int .i64 0) := (blk_cell BK260.out 0).trans rfl
          have hcz55_1 : wc.cell? ⟨gb260, 1, none⟩ = some (.slice none 0 0) := (blk_cell BK260.out 1).trans rfl
          have hfz55_0 := blk_frozen BK260.out 0
          have hfz55_1 := blk_frozen BK260.out 1
          go_wp2
          refine bodyPost_ret (results_ct rfl _ _ gb260 29 #[.int .i64 0, .slice none 0 0] (0, 0) _ rfl (by (with_reducible repeat (first | refine blk_drewN ?_ _ | refine blk_drew ?_ | refine blk_alloc ?_ _)); refine blk_put (cs := #[.int .i64 0, .slice none 0 0]) ?_ 1 _ rfl; (with_reducible repeat (first | refine blk_drewN ?_ _ | refine blk_drew ?_ | refine blk_alloc ?_ _)); refine blk_put (cs := #[.int .i64 0, .slice none 0 0]) ?_ 0 _ rfl; (with_reducible repeat (first | refine blk_drewN ?_ _ | refine blk_drew ?_ | refine blk_alloc ?_ _)); exact BK260.out) Try.underlying29 rfl (by kernel_rfl)) rfl ?_
          exact ⟨_, by first | rfl | (simp [errW_none, errW_some] <;> rfl) | (simp [*, errW_none, errW_some] <;> rfl), by first | exact Kd.R_nil _ _ _ _ _ | exact Kd.N_nil _ _ _ _ _ | exact Kd.V_nil _ _ _ _ _ | exact Kd.Q_nil _ _ _ _ _ | exact Kd.S_nil _ _ _ _ _, bks HB.out⟩
         ·replace c52 := Bool.eq_false_iff.mpr c52
          subst c52
          have H1 : ((spec_l01One.f kj30 a1_0).bind fun bt265 => ((spec_l10Residues.f kj30 a1_0).bind fun t269 => (spec_ActOnCyclo.l1 kj30 t269 0 a0_0 l0_1 a1_0 l1_1 bt265.1 bt265.2))) = some (r1, r2, r3) := by rw [if_neg (show ¬ (false = true) by decide)] at H; exact H
          clear H
          have H := H1
          clear H1
          replace H := Option.bind_eq_some_iff.mp H
          obtain ⟨⟨t265, t266⟩, A560, H⟩ := H
          try dsimp only at H
          have A56 := Aside0.mk A560
          clear A560
          replace H := Option.bind_eq_some_iff.mp H
          obtain ⟨t269, A570, H⟩ := H
          try dsimp only at H
          have A57 := Aside0.mk A570
          clear A570
          have H' := Aside0.mk H
          clear H
          try go_wp2
          replace BK258 := bd BK258
          replace BK259 := bd BK259
          replace BK260 := bd BK260
          replace HB := hd0 HB
          refine start_ (n := 9) (S := fun w' => w'.cell? ⟨gb259, 0, none⟩ = some (.int .i64 a1_0) ∧ w'.cell? ⟨gb259, 1, none⟩ = some (.slice A1_1 l1_1.length c1_1)) (ds := []) #[false, false, false, false, false, false, false, false, false] (by kernel_rfl) rfl rfl ⟨(blk_cell BK259.out 0).trans rfl, (blk_cell BK259.out 1).trans rfl⟩ (fun hHeld => ?_); refine with_tabW spec_ActOnCyclo.tab11 spec_ActOnCyclo.bits11 (fun HT_ HW_ => ?_)
          generalize wc.drew = w58 at BK258 BK259 BK260 HB hHeld ⊢
          refine pu 0 (some 60) HT_ ?_
          refine pu 3 (some 63) HT_ ?_
          refine tk 1 (some 61) HT_ HW_ hHeld ?_ (hy := by rintro w' ⟨s0, s1⟩; go_simp; with_reducible rfl)
          refine tk 4 (some 64) HT_ HW_ hHeld ?_ (hy := by rintro w' ⟨s0, s1⟩; go_simp; with_reducible rfl)
          refine join_ (σ := Value × Value × Nat) 2 #[true, true, true, true, true, true, true, false, false] (fun s_ => [(62, .agg #[.int .i64 t265, s_.1]), (65, s_.2.1), (9, .pointer (some ⟨s_.2.2, 0, none⟩))]) (fun s_ w' => (w'.cell? ⟨gb259, 0, none⟩ = some (.int .i64 a1_0) ∧ w'.cell? ⟨gb259, 1, none⟩ = some (.slice A1_1 l1_1.length c1_1)) ∧ (Kd.R (Kd.int .i64) 2 w' w.heap.size (fun k_ => some k_ ≠ (s_.2.1 : Value).ownBlock) s_.1 t266) ∧ (Kd.R (Kd.int .i64) 2 w' w.heap.size (fun k_ => some k_ ≠ (s_.1 : Value).ownBlock) s_.2.1 t269) ∧ (w'.heap[gb258]? = some (.cells #[.int .i64 a0_0, .slice A0_1 l0_1.length c0_1] 32 (0, 0))) ∧ (w'.heap[gb259]? = some (.cells #[.int .i64 a1_0, .slice A1_1 l1_1.length c1_1] 29 (0, 0))) ∧ (w'.heap[gb260]? = some (.cells #[.int .i64 0, .slice none 0 0] 29 (0, 0))) ∧ (w'.heap[s_.2.2]? = some (.cells #[.int .i64 0, .slice none 0 0] 29 (0, 0))) ∧ (w.heap.size ≤ s_.2.2) ∧ (w.heap.size ≤ s_.2.2) ∧ (gb258 ≠ s_.2.2) ∧ (s_.2.2 ≠ gb258) ∧ (gb259 ≠ s_.2.2) ∧ (s_.2.2 ≠ gb259) ∧ (gb260 ≠ s_.2.2) ∧ (s_.2.2 ≠ gb260) ∧ (Below w.heap.size w w')) ?_ ?_
          rotate_left
          ·intro hCont
           refine two_ (i := 2) (j := 6) (Ni := some 62) (Nj := some 9) #[true, true, true, true, true, false, false, false, false] #[true, true, false, true, true, false, true, false, false] rfl rfl rfl rfl (two_of HT_.out (by kernel_rfl)) (by decide) (by decide) (fun K hK => ?_) (fun K hK => ?_)
           ·skip
            refine gs Try.func97 #[.int .i64 a1_0] ?_
            with_reducible refine (spec_l01One.calls kj30 a1_0 t265 t266 _ A56.out).mono ?_
            rintro e w59 ⟨v267, rfl, ho0, hb⟩
            refine ⟨_, rfl, ?_⟩
            have HO268 := Aside0.mk (Kd.R_lower ho0 (below_size (bks HB.out)))
            replace BK258 := bb BK258 hb
            replace BK259 := bb BK259 hb
            replace BK260 := bb BK260 hb
            replace HB := hs HB hb
            (try clear hb ho0)
            refine hK.out _ _ ⟨(blk_cell BK259.out 0).trans rfl, (blk_cell BK259.out 1).trans rfl⟩ (fun hHeld => ?_)
            clear hK K
            refine nm ?_
            refine two_ (i := 5) (j := 6) (Ni := some 65) (Nj := some 9) #[true, true, true, true, true, true, false, false, false] #[true, true, true, true, true, false, true, false, false] rfl rfl rfl rfl (two_of HT_.out (by kernel_rfl)) (by decide) (by decide) (fun K hK => ?_) (fun K hK => ?_)
            ·skip
             refine gs Try.func98 #[.int .i64 a1_0] ?_
             with_reducible refine (spec_l10Residues.calls kj30 a1_0 t269 _ A57.out).mono ?_
             rintro e w60 ⟨v270, rfl, ho0, hb⟩
             refine ⟨_, rfl, ?_⟩
             have HO271 := Aside0.mk (Kd.R_lower (Kd.R_new' ho0 (Kd.R_lt (rk HO268.out))) (below_size (bks HB.out)))
             replace HO268 := re HO268 ho0 hb
             replace BK258 := bb BK258 hb
             replace BK259 := bb BK259 hb
             replace BK260 := bb BK260 hb
             replace HB := hs HB hb
             (try clear hb ho0)
             refine hK.out _ _ ⟨(blk_cell BK259.out 0).trans rfl, (blk_cell BK259.out 1).trans rfl⟩ (fun hHeld => ?_)
             clear hK K
             refine nm ?_
             refine on 6 (some 9) HT_ (fun K hK => ?_)
             refine bs 9 #[.int .i64 0, .slice none 0 0] 29 (fun gb272 hg w61 hbox hb => ?_)
             have BK272 := Aside0.mk hbox
             have GW272 := ge HB hg
             have GE272 := GW272
             obtain ⟨NB258_272, NB272_258⟩ := nb BK258 hg
             obtain ⟨NB259_272, NB272_259⟩ := nb BK259 hg
             obtain ⟨NB260_272, NB272_260⟩ := nb BK260 hg
             replace HO268 := rb HO268 hb
             replace HO271 := rb HO271 hb
             replace BK258 := bb BK258 hb
             replace BK259 := bb BK259 hb
             replace BK260 := bb BK260 hb
             replace HB := hs HB hb
             clear hb hbox hg
             refine hK.out _ _ ⟨(blk_cell BK259.out 0).trans rfl, (blk_cell BK259.out 1).trans rfl⟩ (fun hHeld => ?_)
             clear hK K
             refine nm ?_
             exact np (hCont (v267, v270, gb272) _ ⟨hHeld, (rk (Kd.R_mono HO268.out (fun _ hk => hk.2))), (rk (Kd.R_mono HO271.out (fun _ hk => hk.2))), (pk BK258.out), (pk BK259.out), (pk BK260.out), (pk BK272.out), GW272.out, GE272.out, NB258_272.out, NB272_258.out, NB259_272.out, NB272_259.out, NB260_272.out, NB272_260.out, (bks HB.out)⟩)
            ·skip
             refine bs 9 #[.int .i64 0, .slice none 0 0] 29 (fun gb272 hg w60 hbox hb => ?_)
             have BK272 := Aside0.mk hbox
             have GW272 := ge HB hg
             have GE272 := GW272
             obtain ⟨NB258_272, NB272_258⟩ := nb BK258 hg
             obtain ⟨NB259_272, NB272_259⟩ := nb BK259 hg
             obtain ⟨NB260_272, NB272_260⟩ := nb BK260 hg
             replace HO268 := rb HO268 hb
             replace BK258 := bb BK258 hb
             replace BK259 := bb BK259 hb
             replace BK260 := bb BK260 hb
             replace HB := hs HB hb
             clear hb hbox hg
             refine hK.out _ _ ⟨(blk_cell BK259.out 0).trans rfl, (blk_cell BK259.out 1).trans rfl⟩ (fun hHeld => ?_)
             clear hK K
             refine nm ?_
             refine on 5 (some 65) HT_ (fun K hK => ?_)
             refine gs Try.func98 #[.int .i64 a1_0] ?_
             with_reducible refine (spec_l10Residues.calls kj30 a1_0 t269 _ A57.out).mono ?_
             rintro e w61 ⟨v270, rfl, ho0, hb⟩
             refine ⟨_, rfl, ?_⟩
             have HO271 := Aside0.mk (Kd.R_lower (Kd.R_new' ho0 (Kd.R_lt (rk HO268.out))) (below_size (bks HB.out)))
             replace HO268 := re HO268 ho0 hb
             replace BK258 := bb BK258 hb
             replace BK259 := bb BK259 hb
             replace BK260 := bb BK260 hb
             replace BK272 := bb BK272 hb
             replace HB := hs HB hb
             (try clear hb ho0)
             refine hK.out _ _ ⟨(blk_cell BK259.out 0).trans rfl, (blk_cell BK259.out 1).trans rfl⟩ (fun hHeld => ?_)
             clear hK K
             refine nm ?_
             exact np (hCont (v267, v270, gb272) _ ⟨hHeld, (rk (Kd.R_mono HO268.out (fun _ hk => hk.2))), (rk (Kd.R_mono HO271.out (fun _ hk => hk.2))), (pk BK258.out), (pk BK259.out), (pk BK260.out), (pk BK272.out), GW272.out, GE272.out, NB258_272.out, NB272_258.out, NB259_272.out, NB272_259.out, NB260_272.out, NB272_260.out, (bks HB.out)⟩)
           ·skip
            refine bs 9 #[.int .i64 0, .slice none 0 0] 29 (fun gb272 hg w59 hbox hb => ?_)
            have BK272 := Aside0.mk hbox
            have GW272 := ge HB hg
            have GE272 := GW272
            obtain ⟨NB258_272, NB272_258⟩ := nb BK258 hg
            obtain ⟨NB259_272, NB272_259⟩ := nb BK259 hg
            obtain ⟨NB260_272, NB272_260⟩ := nb BK260 hg
            replace BK258 := bb BK258 hb
            replace BK259 := bb BK259 hb
            replace BK260 := bb BK260 hb
            replace HB := hs HB hb
            clear hb hbox hg
            refine hK.out _ _ ⟨(blk_cell BK259.out 0).trans rfl, (blk_cell BK259.out 1).trans rfl⟩ (fun hHeld => ?_)
            clear hK K
            refine nm ?_
            refine on 2 (some 62) HT_ (fun K hK => ?_)
            refine gs Try.func97 #[.int .i64 a1_0] ?_
            with_reducible refine (spec_l01One.calls kj30 a1_0 t265 t266 _ A56.out).mono ?_
            rintro e w60 ⟨v267, rfl, ho0, hb⟩
            refine ⟨_, rfl, ?_⟩
            have HO268 := Aside0.mk (Kd.R_lower ho0 (below_size (bks HB.out)))
            replace BK258 := bb BK258 hb
            replace BK259 := bb BK259 hb
            replace BK260 := bb BK260 hb
            replace BK272 := bb BK272 hb
            replace HB := hs HB hb
            (try clear hb ho0)
            refine hK.out _ _ ⟨(blk_cell BK259.out 0).trans rfl, (blk_cell BK259.out 1).trans rfl⟩ (fun hHeld => ?_)
            clear hK K
            refine nm ?_
            refine on 5 (some 65) HT_ (fun K hK => ?_)
            refine gs Try.func98 #[.int .i64 a1_0] ?_
            with_reducible refine (spec_l10Residues.calls kj30 a1_0 t269 _ A57.out).mono ?_
            rintro e w61 ⟨v270, rfl, ho0, hb⟩
            refine ⟨_, rfl, ?_⟩
            have HO271 := Aside0.mk (Kd.R_lower (Kd.R_new' ho0 (Kd.R_lt (rk HO268.out))) (below_size (bks HB.out)))
            replace HO268 := re HO268 ho0 hb
            replace BK258 := bb BK258 hb
            replace BK259 := bb BK259 hb
            replace BK260 := bb BK260 hb
            replace BK272 := bb BK272 hb
            replace HB := hs HB hb
            (try clear hb ho0)
            refine hK.out _ _ ⟨(blk_cell BK259.out 0).trans rfl, (blk_cell BK259.out 1).trans rfl⟩ (fun hHeld => ?_)
            clear hK K
            refine nm ?_
            exact np (hCont (v267, v270, gb272) _ ⟨hHeld, (rk (Kd.R_mono HO268.out (fun _ hk => hk.2))), (rk (Kd.R_mono HO271.out (fun _ hk => hk.2))), (pk BK258.out), (pk BK259.out), (pk BK260.out), (pk BK272.out), GW272.out, GE272.out, NB258_272.out, NB272_258.out, NB259_272.out, NB272_259.out, NB260_272.out, NB272_260.out, (bks HB.out)⟩)
          rintro ⟨v267, v270, gb272⟩ w62 ⟨hS_, h0_, h1_, h2_, h3_, h4_, h5_, h6_, h7_, h8_, h9_, h10_, h11_, h12_, h13_, h14_⟩
          try dsimp only at h0_ h1_ h2_ h3_ h4_ h5_ h6_ h7_ h8_ h9_ h10_ h11_ h12_ h13_ h14_
          have HO268 := Aside0.mk h0_
          have HO271 := Aside0.mk h1_
          have BK272 := Aside0.mk h5_
          have GW272 := Aside0.mk h6_
          have GE272 := Aside0.mk h7_
          have NB258_272 := Aside0.mk h8_
          have NB272_258 := Aside0.mk h9_
          have NB259_272 := Aside0.mk h10_
          have NB272_259 := Aside0.mk h11_
          have NB260_272 := Aside0.mk h12_
          have NB272_260 := Aside0.mk h13_
          replace BK258 := Aside0.mk h2_
          replace BK259 := Aside0.mk h3_
          replace BK260 := Aside0.mk h4_
          replace HB := Aside0.mk h14_
          clear h0_ h1_ h2_ h3_ h4_ h5_ h6_ h7_ h8_ h9_ h10_ h11_ h12_ h13_ h14_
          have hHeld : w62.cell? ⟨gb259, 0, none⟩ = some (.int .i64 a1_0) ∧ w62.cell? ⟨gb259, 1, none⟩ = some (.slice A1_1 l1_1.length c1_1) := hS_
          obtain ⟨Ao64, co64, eo64⟩ := Kd.R_slice HO268.out
          (first | subst eo64 | (injection eo64 with f1_ f2_ f3_; have f4_ := f1_.symm; have f5_ := f3_.symm; clear f1_ f2_ f3_; subst f4_; subst f5_))
          refine norm_ (a' := ?_) ?_ ?_
          rotate_left
          ·simp only [putAll, Act.put, List.setIfInBounds_toArray, List.set_cons_zero, List.set_cons_succ]
           rfl
          refine on 7 none HT_ (fun K hK => ?_)
          have hs63 : w62.cell? ⟨gb272, 0, none⟩ = some (.int .i64 0) := (blk_cell BK272.out 0).trans rfl
          have hfs63 := blk_frozen BK272.out 0
          have hns63_0 := NB258_272.out
          have hns63_1 := NB259_272.out
          have hns63_2 := NB260_272.out
          have hms63_0 := NB272_258.out
          have hms63_1 := NB272_259.out
          have hms63_2 := NB272_260.out
          have hs65 : w62.cell? ⟨gb272, 1, none⟩ = some (.slice none 0 0) := (blk_cell BK272.out 1).trans rfl
          have hfs65 := blk_frozen BK272.out 1
          have hns65_0 := NB258_272.out
          have hns65_1 := NB259_272.out
          have hns65_2 := NB260_272.out
          have hms65_0 := NB272_258.out
          have hms65_1 := NB272_259.out
          have hms65_2 := NB272_260.out
          refine skip_ (w1 := ?_) (by rfl) rfl ?_ ?_
          rotate_left
          ·go_simp
           rfl
          refine hK.out _ _ ⟨((cell_far (p := ⟨gb272, _, none⟩) NB259_272.out _).trans (((cell_far (p := ⟨gb272, _, none⟩) NB259_272.out _).trans (hHeld.1)))), ((cell_far (p := ⟨gb272, _, none⟩) NB259_272.out _).trans (((cell_far (p := ⟨gb272, _, none⟩) NB259_272.out _).trans (hHeld.2))))⟩ (fun hHeld => ?_)
          clear hK K
          refine pu 8 (some 10) HT_ ?_
          refine done_ (done_of HT_.out (by kernel_rfl)) ?_
          try go_wp2
          go_loopg [11] kj30 (fun kq v11 w' => ∃ (x11_4 : Int) (x261000_4 : Int) (x273000_4 : Int) (x273001_4 : List Int) (u273001 : Value), v11 = .int .i64 x11_4 ∧ Aside0 (spec_ActOnCyclo.l1 kq t269 x11_4 a0_0 l0_1 a1_0 l1_1 x273000_4 x273001_4 = some (r1, r2, r3)) ∧ Aside0 (kq ≤ kj30) ∧ Aside0 (Kd.R (Kd.int .i64) 2 w' w.heap.size (fun k_ => some k_ ≠ (u273001 : Value).ownBlock) v270 t269) ∧ Aside0 (Kd.R (Kd.int .i64) 2 w' w.heap.size (fun k_ => some k_ ≠ (v270 : Value).ownBlock) u273001 x273001_4) ∧ Aside0 (w'.heap[gb258]? = some (.cells #[.int .i64 a0_0, (.slice A0_1 l0_1.length c0_1)] 32 (0, 0))) ∧ Aside0 (w'.heap[gb259]? = some (.cells #[.int .i64 a1_0, (.slice A1_1 l1_1.length c1_1)] 29 (0, 0))) ∧ Aside0 (w'.heap[gb260]? = some (.cells #[.int .i64 x261000_4, (.slice none 0 0)] 29 (0, 0))) ∧ Aside0 (w'.heap[gb272]? = some (.cells #[.int .i64 x273000_4, u273001] 29 (0, 0))) ∧ Aside0 (Below w.heap.size w w'))
          case atStart => exact ⟨(0), (0), (t265), (t266), (.slice Ao64 t266.length co64), (by first | rfl | (simp; done) | (simp [*]; done)), H', ⟨Nat.le_refl _⟩, ⟨by (with_reducible repeat (first | apply Kd.R_alloc | apply Kd.R_drewN | apply Kd.R_drew)); exact Kd.R_mono (Kd.R_far (p := ⟨gb272, 1, none⟩) (Kd.R_far (p := ⟨gb272, 0, none⟩) (Kd.R_types HO271.out BK272.out (by decide)) (fun _ hk => hk.2) (.int .i64 t265)) (fun _ hk => hk.2) (.slice Ao64 t266.length co64)) (fun _ hk => hk.1)⟩, ⟨by (with_reducible repeat (first | apply Kd.R_alloc | apply Kd.R_drewN | apply Kd.R_drew)); exact Kd.R_mono (Kd.R_far (p := ⟨gb272, 1, none⟩) (Kd.R_far (p := ⟨gb272, 0, none⟩) (Kd.R_types HO268.out BK272.out (by decide)) (fun _ hk => hk.2) (.int .i64 t265)) (fun _ hk => hk.2) (.slice Ao64 t266.length co64)) (fun _ hk => hk.1)⟩, ⟨bf BK258⟩, ⟨bf BK259⟩, ⟨bf BK260⟩, ⟨by (with_reducible repeat (first | refine blk_drewN ?_ _ | refine blk_drew ?_ | refine blk_alloc ?_ _)); refine blk_put (cs := #[.int .i64 t265, .slice none 0 0]) ?_ 1 _ rfl; (with_reducible repeat (first | refine blk_drewN ?_ _ | refine blk_drew ?_ | refine blk_alloc ?_ _)); refine blk_put (cs := #[.int .i64 0, .slice none 0 0]) ?_ 0 _ rfl; (with_reducible repeat (first | refine blk_drewN ?_ _ | refine blk_drew ?_ | refine blk_alloc ?_ _)); exact BK272.out⟩, ⟨bks HB.out⟩⟩
          case round =>
           clear H'
           try clear c1; try clear c2; try clear p2; try clear q2; try clear hx2; try clear c3; try clear c4; try clear c5; try clear p6; try clear c8; try clear c9; try clear c10; try clear c11; try clear c13; try clear c14; try clear c17; try clear c18; try clear c21; try clear c22; try clear c23; try clear c25; try clear c25b0; try clear c26; try clear c26b0; try clear p26; try clear q26; try clear hx26; try clear c28; try clear c29; try clear c32; try clear c33; try clear c35; try clear c35b0; try clear c35b1; try clear c36; try clear c36b0; try clear c37; try clear c38; try clear c40; try clear c42; try clear c43; try clear c45; try clear c47; try clear c48; try clear c50; try clear c52; try clear c53; try clear c54; try clear hcz12_0; try clear hcz12_1; try clear hcz15_0; try clear hcz15_1; try clear hcz19_0; try clear hcz19_1; try clear hcz24_0; try clear hcz24_1; try clear hcz30_0; try clear hcz30_1; try clear hcz34_0; try clear hcz34_1; try clear hcz39_0; try clear hcz39_1; try clear hcz41_0; try clear hcz41_1; try clear hcz44_0; try clear hcz44_1; try clear hcz46_0; try clear hcz46_1; try clear hcz49_0; try clear hcz49_1; try clear hcz51_0; try clear hcz51_1; try clear hcz55_0; try clear hcz55_1; try clear hfz12_0; try clear hfz12_1; try clear hfz15_0; try clear hfz15_1; try clear hfz19_0; try clear hfz19_1; try clear hfz24_0; try clear hfz24_1; try clear hfz30_0; try clear hfz30_1; try clear hfz34_0; try clear hfz34_1; try clear hfz39_0; try clear hfz39_1; try clear hfz41_0; try clear hfz41_1; try clear hfz44_0; try clear hfz44_1; try clear hfz46_0; try clear hfz46_1; try clear hfz49_0; try clear hfz49_1; try clear hfz51_0; try clear hfz51_1; try clear hfz55_0; try clear hfz55_1; try clear hx263_0; try clear hx264_0; try clear p2; try clear p26; try clear p263; try clear p264; try clear p6; try clear q2; try clear q26; try clear q263; try clear q264
           obtain ⟨x11_4, x261000_4, x273000_4, x273001_4, u273001, rfl, HA, HK4, HO_10, HO_273001, BK258, BK259, BK260, BK272, HB⟩ := hrel
           cases gk with
           | zero => exact absurd HA.out (by simp [spec_ActOnCyclo.l1])
           | succ k4 =>
            have H := HA.out
            clear HA
            simp only [spec_ActOnCyclo.l1] at H
            by_cases c66 : x11_4 < (t269.length : Int)
            ·rw [if_pos c66] at H
             have c66b0 : decide (x11_4 < (t269.length : Int)) = true := decide_eq_true c66
             clear c66
             by_cases c67 : 0 ≤ x11_4
             rotate_left
             ·rw [if_neg c67] at H; exact absurd H (by simp)
             rw [if_pos c67] at H
             have c67b0 : decide (0 ≤ x11_4) = true := decide_eq_true c67
             clear c67
             replace H := Option.bind_eq_some_iff.mp H
             obtain ⟨⟨t274, t275⟩, A680, H⟩ := H
             try dsimp only at H
             have A68 := Aside0.mk A680
             clear A680
             by_cases c69 : x11_4 < (l0_1.length : Int)
             rotate_left
             ·rw [if_neg c69] at H; exact absurd H (by simp)
             rw [if_pos c69] at H
             have c69b0 : decide (x11_4 < (l0_1.length : Int)) = true := decide_eq_true c69
             clear c69
             have H' := Aside0.mk H
             clear H
             obtain ⟨Ao70, co70, eo70⟩ := Kd.R_slice HO_10.out
             subst eo70
             try go_wp2
             replace HO_10 := rd0 HO_10
             replace HO_273001 := rd0 HO_273001
             replace BK258 := bd BK258
             replace BK259 := bd BK259
             replace BK260 := bd BK260
             replace BK272 := bd BK272
             replace HB := hd0 HB
             have p273 : 0 ≤ (x11_4 : Int) := of_decide_eq_true (by first | (with_reducible assumption) | assumption)
             have q273 : x11_4 < (t269.length : Int) := of_decide_eq_true (by first | (with_reducible assumption) | assumption)
             obtain ⟨ad273, e273, hx273_0⟩ := Kd.at_int (Kd.R_reads' HO_10.out).2.2 x11_4 p273 q273
             cases e273
             replace p273 := eq_true p273
             replace q273 := eq_true q273
             refine start_ (n := 8) (S := fun w' => w'.cell? ⟨gb259, 0, none⟩ = some (.int .i64 a1_0) ∧ w'.cell? ⟨gb259, 1, none⟩ = some (.slice A1_1 l1_1.length c1_1) ∧ w'.cell? (ad273.add (x11_4).toNat) = some (.int .i64 (rd t269 x11_4))) (ds := []) #[false, false, false, false, false, false, false, false] (by kernel_rfl) rfl rfl ⟨(blk_cell BK259.out 0).trans rfl, (blk_cell BK259.out 1).trans rfl, hx273_0⟩ (fun hHeld => ?_); refine with_tabW spec_ActOnCyclo.tab15 spec_ActOnCyclo.bits15 (fun HT_ HW_ => ?_)
             generalize wr.drew = w71 at HO_10 HO_273001 BK258 BK259 BK260 BK272 HB hx273_0 hHeld ⊢
             refine pu 1 (some 73) HT_ ?_
             refine pu 2 (some 74) HT_ ?_
             refine pu 3 (some 75) HT_ ?_
             refine tk 0 (some 72) HT_ HW_ hHeld ?_ (hy := by rintro w' ⟨s0, s1, s2⟩; go_simp; with_reducible rfl)
             refine tk 4 (some 76) HT_ HW_ hHeld ?_ (hy := by rintro w' ⟨s0, s1, s2⟩; go_simp; with_reducible rfl)
             refine join_ (σ := Value × Nat) 1 #[true, true, true, true, true, true, true, false] (fun s_ => [(77, .agg #[.int .i64 t274, s_.1]), (12, .pointer (some ⟨s_.2, 0, none⟩))]) (fun s_ w' => (w'.cell? ⟨gb259, 0, none⟩ = some (.int .i64 a1_0) ∧ w'.cell? ⟨gb259, 1, none⟩ = some (.slice A1_1 l1_1.length c1_1) ∧ w'.cell? (ad273.add (x11_4).toNat) = some (.int .i64 (rd t269 x11_4))) ∧ (Kd.R (Kd.int .i64) 2 w' w.heap.size (fun k_ => some k_ ≠ (.slice (some ad273) t269.length co70 : Value).ownBlock ∧ some k_ ≠ (u273001 : Value).ownBlock) s_.1 t275) ∧ (Kd.R (Kd.int .i64) 2 w' w.heap.size (fun k_ => some k_ ≠ (s_.1 : Value).ownBlock ∧ some k_ ≠ (u273001 : Value).ownBlock) (.slice (some ad273) t269.length co70) t269) ∧ (Kd.R (Kd.int .i64) 2 w' w.heap.size (fun k_ => some k_ ≠ (s_.1 : Value).ownBlock ∧ some k_ ≠ (.slice (some ad273) t269.length co70 : Value).ownBlock) u273001 x273001_4) ∧ (w'.heap[gb258]? = some (.cells #[.int .i64 a0_0, .slice A0_1 l0_1.length c0_1] 32 (0, 0))) ∧ (w'.heap[gb259]? = some (.cells #[.int .i64 a1_0, .slice A1_1 l1_1.length c1_1] 29 (0, 0))) ∧ (w'.heap[gb260]? = some (.cells #[.int .i64 x261000_4, .slice none 0 0] 29 (0, 0))) ∧ (w'.heap[gb272]? = some (.cells #[.int .i64 x273000_4, u273001] 29 (0, 0))) ∧ (w'.heap[s_.2]? = some (.cells #[.int .i64 0, .slice none 0 0] 29 (0, 0))) ∧ (w.heap.size ≤ s_.2) ∧ (w.heap.size ≤ s_.2) ∧ (gb258 ≠ s_.2) ∧ (s_.2 ≠ gb258) ∧ (gb259 ≠ s_.2) ∧ (s_.2 ≠ gb259) ∧ (gb260 ≠ s_.2) ∧ (s_.2 ≠ gb260) ∧ (gb272 ≠ s_.2) ∧ (s_.2 ≠ gb272) ∧ (Below w.heap.size w w')) ?_ ?_
             rotate_left
             ·intro hCont
              refine two_ (i := 5) (j := 6) (Ni := some 77) (Nj := some 12) #[true, true, true, true, true, true, false, false] #[true, true, true, true, true, false, true, false] rfl rfl rfl rfl (two_of HT_.out (by kernel_rfl)) (by decide) (by decide) (fun K hK => ?_) (fun K hK => ?_)
              ·skip
               refine gs Try.func99 #[.agg #[.int .i64 a1_0, .slice A1_1 l1_1.length c1_1], .int .i64 (rd t269 x11_4)] ?_
               with_reducible refine (spec_l01Galois.calls k4 a1_0 _ _ l1_1 (rd t269 x11_4) t274 t275 _ ?side1 ?side2 A68.out).mono ?_
               (case side1 => repeat (first | exact (Kd.C_below HR1_1.out HB.out) | (with_reducible refine Kd.C_alloc ?_ _) | (with_reducible refine Kd.C_drewN ?_ _) | (with_reducible refine Kd.C_drew ?_)))
               (case side2 => exact HC1_1.out)
               rintro e w72 ⟨v276, rfl, ho0, hb⟩
               have HS2_ := (hb.cell (World.block_lt_of_cell? _ _ (hHeld.2.2))).trans (hHeld.2.2)
               refine ⟨_, rfl, ?_⟩
               have HO277 := Aside0.mk (Kd.R_lower (Kd.R_new' (Kd.R_new' ho0 (Kd.R_lt (rk HO_10.out))) (Kd.R_lt (rk HO_273001.out))) (below_size (bks HB.out)))
               replace HO_10 := re HO_10 ho0 hb
               replace HO_273001 := re HO_273001 ho0 hb
               replace BK258 := bb BK258 hb
               replace BK259 := bb BK259 hb
               replace BK260 := bb BK260 hb
               replace BK272 := bb BK272 hb
               replace HB := hs HB hb
               (try clear hb ho0)
               refine hK.out _ _ ⟨(blk_cell BK259.out 0).trans rfl, (blk_cell BK259.out 1).trans rfl, HS2_⟩ (fun hHeld => ?_)
               clear hK K
               refine nm ?_
               refine on 6 (some 12) HT_ (fun K hK => ?_)
               refine bs 12 #[.int .i64 0, .slice none 0 0] 29 (fun gb278 hg w73 hbox hb => ?_)
               have HS2_ := (hb.cell (World.block_lt_of_cell? _ _ (hHeld.2.2))).trans (hHeld.2.2)
               have BK278 := Aside0.mk hbox
               have GW278 := ge HB hg
               have GE278 := GW278
               obtain ⟨NB258_278, NB278_258⟩ := nb BK258 hg
               obtain ⟨NB259_278, NB278_259⟩ := nb BK259 hg
               obtain ⟨NB260_278, NB278_260⟩ := nb BK260 hg
               obtain ⟨NB272_278, NB278_272⟩ := nb BK272 hg
               replace HO_10 := rb HO_10 hb
               replace HO_273001 := rb HO_273001 hb
               replace HO277 := rb HO277 hb
               replace BK258 := bb BK258 hb
               replace BK259 := bb BK259 hb
               replace BK260 := bb BK260 hb
               replace BK272 := bb BK272 hb
               replace HB := hs HB hb
               clear hb hbox hg
               refine hK.out _ _ ⟨(blk_cell BK259.out 0).trans rfl, (blk_cell BK259.out 1).trans rfl, HS2_⟩ (fun hHeld => ?_)
               clear hK K
               refine nm ?_
               exact np (hCont (v276, gb278) _ ⟨hHeld, (rk (Kd.R_mono HO277.out (fun _ hk => ⟨hk.1.2, hk.2⟩))), (rk (Kd.R_mono HO_10.out (fun _ hk => ⟨hk.2, hk.1⟩))), (rk (Kd.R_mono HO_273001.out (fun _ hk => ⟨hk.2, hk.1⟩))), (pk BK258.out), (pk BK259.out), (pk BK260.out), (pk BK272.out), (pk BK278.out), GW278.out, GE278.out, NB258_278.out, NB278_258.out, NB259_278.out, NB278_259.out, NB260_278.out, NB278_260.out, NB272_278.out, NB278_272.out, (bks HB.out)⟩)
              ·skip
               refine bs 12 #[.int .i64 0, .slice none 0 0] 29 (fun gb278 hg w72 hbox hb => ?_)
               have HS2_ := (hb.cell (World.block_lt_of_cell? _ _ (hHeld.2.2))).trans (hHeld.2.2)
               have BK278 := Aside0.mk hbox
               have GW278 := ge HB hg
               have GE278 := GW278
               obtain ⟨NB258_278, NB278_258⟩ := nb BK258 hg
               obtain ⟨NB259_278, NB278_259⟩ := nb BK259 hg
               obtain ⟨NB260_278, NB278_260⟩ := nb BK260 hg
               obtain ⟨NB272_278, NB278_272⟩ := nb BK272 hg
               replace HO_10 := rb HO_10 hb
               replace HO_273001 := rb HO_273001 hb
               replace BK258 := bb BK258 hb
               replace BK259 := bb BK259 hb
               replace BK260 := bb BK260 hb
               replace BK272 := bb BK272 hb
               replace HB := hs HB hb
               clear hb hbox hg
               refine hK.out _ _ ⟨(blk_cell BK259.out 0).trans rfl, (blk_cell BK259.out 1).trans rfl, HS2_⟩ (fun hHeld => ?_)
               clear hK K
               refine nm ?_
               refine on 5 (some 77) HT_ (fun K hK => ?_)
               refine gs Try.func99 #[.agg #[.int .i64 a1_0, .slice A1_1 l1_1.length c1_1], .int .i64 (rd t269 x11_4)] ?_
               with_reducible refine (spec_l01Galois.calls k4 a1_0 _ _ l1_1 (rd t269 x11_4) t274 t275 _ ?side1 ?side2 A68.out).mono ?_
               (case side1 => repeat (first | exact (Kd.C_below HR1_1.out HB.out) | (with_reducible refine Kd.C_alloc ?_ _) | (with_reducible refine Kd.C_drewN ?_ _) | (with_reducible refine Kd.C_drew ?_)))
               (case side2 => exact HC1_1.out)
               rintro e w73 ⟨v276, rfl, ho0, hb⟩
               have HS2_ := (hb.cell (World.block_lt_of_cell? _ _ (hHeld.2.2))).trans (hHeld.2.2)
               refine ⟨_, rfl, ?_⟩
               have HO277 := Aside0.mk (Kd.R_lower (Kd.R_new' (Kd.R_new' ho0 (Kd.R_lt (rk HO_10.out))) (Kd.R_lt (rk HO_273001.out))) (below_size (bks HB.out)))
               replace HO_10 := re HO_10 ho0 hb
               replace HO_273001 := re HO_273001 ho0 hb
               replace BK258 := bb BK258 hb
               replace BK259 := bb BK259 hb
               replace BK260 := bb BK260 hb
               replace BK272 := bb BK272 hb
               replace BK278 := bb BK278 hb
               replace HB := hs HB hb
               (try clear hb ho0)
               refine hK.out _ _ ⟨(blk_cell BK259.out 0).trans rfl, (blk_cell BK259.out 1).trans rfl, HS2_⟩ (fun hHeld => ?_)
               clear hK K
               refine nm ?_
               exact np (hCont (v276, gb278) _ ⟨hHeld, (rk (Kd.R_mono HO277.out (fun _ hk => ⟨hk.1.2, hk.2⟩))), (rk (Kd.R_mono HO_10.out (fun _ hk => ⟨hk.2, hk.1⟩))), (rk (Kd.R_mono HO_273001.out (fun _ hk => ⟨hk.2, hk.1⟩))), (pk BK258.out), (pk BK259.out), (pk BK260.out), (pk BK272.out), (pk BK278.out), GW278.out, GE278.out, NB258_278.out, NB278_258.out, NB259_278.out, NB278_259.out, NB260_278.out, NB278_260.out, NB272_278.out, NB278_272.out, (bks HB.out)⟩)
             rintro ⟨v276, gb278⟩ w74 ⟨hS_, h0_, h1_, h2_, h3_, h4_, h5_, h6_, h7_, h8_, h9_, h10_, h11_, h12_, h13_, h14_, h15_, h16_, h17_, h18_⟩
             try dsimp only at h0_ h1_ h2_ h3_ h4_ h5_ h6_ h7_ h8_ h9_ h10_ h11_ h12_ h13_ h14_ h15_ h16_ h17_ h18_
             have HO277 := Aside0.mk h0_
             have BK278 := Aside0.mk h7_
             have GW278 := Aside0.mk h8_
             have GE278 := Aside0.mk h9_
             have NB258_278 := Aside0.mk h10_
             have NB278_258 := Aside0.mk h11_
             have NB259_278 := Aside0.mk h12_
             have NB278_259 := Aside0.mk h13_
             have NB260_278 := Aside0.mk h14_
             have NB278_260 := Aside0.mk h15_
             have NB272_278 := Aside0.mk h16_
             have NB278_272 := Aside0.mk h17_
             replace HO_10 := Aside0.mk h1_
             replace HO_273001 := Aside0.mk h2_
             replace BK258 := Aside0.mk h3_
             replace BK259 := Aside0.mk h4_
             replace BK260 := Aside0.mk h5_
             replace BK272 := Aside0.mk h6_
             replace HB := Aside0.mk h18_
             clear h0_ h1_ h2_ h3_ h4_ h5_ h6_ h7_ h8_ h9_ h10_ h11_ h12_ h13_ h14_ h15_ h16_ h17_ h18_
             have hHeld : w74.cell? ⟨gb259, 0, none⟩ = some (.int .i64 a1_0) ∧ w74.cell? ⟨gb259, 1, none⟩ = some (.slice A1_1 l1_1.length c1_1) ∧ w74.cell? (ad273.add (x11_4).toNat) = some (.int .i64 (rd t269 x11_4)) := hS_
             obtain ⟨Ao76, co76, eo76⟩ := Kd.R_slice HO277.out
             (first | subst eo76 | (injection eo76 with f1_ f2_ f3_; have f4_ := f1_.symm; have f5_ := f3_.symm; clear f1_ f2_ f3_; subst f4_; subst f5_))
             refine norm_ (a' := ?_) ?_ ?_
             rotate_left
             ·simp only [putAll, Act.put, List.setIfInBounds_toArray, List.set_cons_zero, List.set_cons_succ]
              rfl
             refine on 7 none HT_ (fun K hK => ?_)
             have hs75 : w74.cell? ⟨gb278, 0, none⟩ = some (.int .i64 0) := (blk_cell BK278.out 0).trans rfl
             have hfs75 := blk_frozen BK278.out 0
             have hns75_0 := NB258_278.out
             have hns75_1 := NB259_278.out
             have hns75_2 := NB260_278.out
             have hns75_3 := NB272_278.out
             have hms75_0 := NB278_258.out
             have hms75_1 := NB278_259.out
             have hms75_2 := NB278_260.out
             have hms75_3 := NB278_272.out
             have hs77 : w74.cell? ⟨gb278, 1, none⟩ = some (.slice none 0 0) := (blk_cell BK278.out 1).trans rfl
             have hfs77 := blk_frozen BK278.out 1
             have hns77_0 := NB258_278.out
             have hns77_1 := NB259_278.out
             have hns77_2 := NB260_278.out
             have hns77_3 := NB272_278.out
             have hms77_0 := NB278_258.out
             have hms77_1 := NB278_259.out
             have hms77_2 := NB278_260.out
             have hms77_3 := NB278_272.out
             refine skip_ (w1 := ?_) (by rfl) rfl ?_ ?_
             rotate_left
             ·go_simp
              rfl
             refine hK.out _ _ ⟨((cell_far (p := ⟨gb278, _, none⟩) NB259_278.out _).trans (((cell_far (p := ⟨gb278, _, none⟩) NB259_278.out _).trans (hHeld.1)))), ((cell_far (p := ⟨gb278, _, none⟩) NB259_278.out _).trans (((cell_far (p := ⟨gb278, _, none⟩) NB259_278.out _).trans (hHeld.2.1)))), ((cell_far (p := ⟨gb278, _, none⟩) (by first | exact Kd.own_blk (Kd.R_ne HO_10.out BK278.out (by decide)) | (rw [add_block]; exact Kd.own_blk (Kd.R_ne HO_10.out BK278.out (by decide))) | (show (Addr.add _ _).block ≠ _; rw [add_block]; exact Kd.own_blk (Kd.R_ne HO_10.out BK278.out (by decide))) | (dsimp only; exact Kd.own_blk (Kd.R_ne HO_10.out BK278.out (by decide)))) _).trans (((cell_far (p := ⟨gb278, _, none⟩) (by first | exact Kd.own_blk (Kd.R_ne HO_10.out BK278.out (by decide)) | (rw [add_block]; exact Kd.own_blk (Kd.R_ne HO_10.out BK278.out (by decide))) | (show (Addr.add _ _).block ≠ _; rw [add_block]; exact Kd.own_blk (Kd.R_ne HO_10.out BK278.out (by decide))) | (dsimp only; exact Kd.own_blk (Kd.R_ne HO_10.out BK278.out (by decide)))) _).trans (hHeld.2.2))))⟩ (fun hHeld => ?_)
             clear hK K
             refine done_ (done_of HT_.out (by kernel_rfl)) ?_
             have hnb78 := NB258_259.out
             have hnc78 := NB259_258.out
             have hnb79 := NB258_260.out
             have hnc79 := NB260_258.out
             have hnb80 := NB258_272.out
             have hnc80 := NB272_258.out
             have hnb81 := NB258_278.out
             have hnc81 := NB278_258.out
             have hcz82_0 : w74.cell? ⟨gb258, 0, none⟩ = some (.int .i64 a0_0) := (blk_cell BK258.out 0).trans rfl
             have hcz82_1 : w74.cell? ⟨gb258, 1, none⟩ = some (.slice A0_1 l0_1.length c0_1) := (blk_cell BK258.out 1).trans rfl
             have hfz82_0 := blk_frozen BK258.out 0
             have hfz82_1 := blk_frozen BK258.out 1
             have p279 : 0 ≤ (x11_4 : Int) := of_decide_eq_true (by first | (with_reducible assumption) | assumption)
             have q279 : x11_4 < (l0_1.length : Int) := of_decide_eq_true (by first | (with_reducible assumption) | assumption)
             obtain ⟨ad279, e279, hx279_0⟩ := Kd.at_int HR0_1.out x11_4 p279 q279
             cases e279
             have hn279_0 : ad279.block ≠ gb278 := Nat.ne_of_lt (Nat.lt_of_lt_of_le (by have := World.block_lt_of_cell? _ _ hx279_0; first | rwa [add_block] at this | exact this) GW278.out)
             have hn279_1 : ad279.block ≠ gb278 := Nat.ne_of_lt (Nat.lt_of_lt_of_le (by have := World.block_lt_of_cell? _ _ hx279_0; first | rwa [add_block] at this | exact this) GW278.out)
             replace hx279_0 := (HB.out.cell (World.block_lt_of_cell? w _ hx279_0)).trans hx279_0
             replace hx279_0 := (cell_far (p := ⟨gb278, 0, none⟩) (by first | (rw [add_block]; exact hn279_0) | (show (Addr.add _ _).block ≠ _; rw [add_block]; exact hn279_0) | exact hn279_0) (.int .i64 t274)).trans hx279_0
             replace hx279_0 := (cell_far (p := ⟨gb278, 1, none⟩) (by first | (rw [add_block]; exact hn279_1) | (show (Addr.add _ _).block ≠ _; rw [add_block]; exact hn279_1) | exact hn279_1) (.slice Ao76 t275.length co76)).trans hx279_0
             clear hn279_0 hn279_1
             replace p279 := eq_true p279
             replace q279 := eq_true q279
             try go_wp2
             go_loopg [13] k4 (fun kq v13 w' => ∃ (x13_5 : Int) (x261000_5 : Int) (x273000_5 : Int) (x273001_5 : List Int) (u273001 : Value), v13 = .int .i64 x13_5 ∧ Aside0 (spec_ActOnCyclo.l2 kq t269 x11_4 x13_5 a0_0 l0_1 a1_0 l1_1 x273000_5 x273001_5 t274 t275 = some (r1, r2, r3)) ∧ Aside0 (kq ≤ k4) ∧ Aside0 (Kd.R (Kd.int .i64) 2 w' w.heap.size (fun k_ => some k_ ≠ (u273001 : Value).ownBlock ∧ some k_ ≠ ((.slice Ao76 t275.length co76) : Value).ownBlock) (.slice (some ad273) t269.length co70) t269) ∧ Aside0 (Kd.R (Kd.int .i64) 2 w' w.heap.size (fun k_ => some k_ ≠ ((.slice (some ad273) t269.length co70) : Value).ownBlock ∧ some k_ ≠ ((.slice Ao76 t275.length co76) : Value).ownBlock) u273001 x273001_5) ∧ Aside0 (Kd.R (Kd.int .i64) 2 w' w.heap.size (fun k_ => some k_ ≠ ((.slice (some ad273) t269.length co70) : Value).ownBlock ∧ some k_ ≠ (u273001 : Value).ownBlock) (.slice Ao76 t275.length co76) t275) ∧ Aside0 (w'.heap[gb258]? = some (.cells #[.int .i64 a0_0, (.slice (some ad279) l0_1.length c0_1)] 32 (0, 0))) ∧ Aside0 (w'.heap[gb259]? = some (.cells #[.int .i64 a1_0, (.slice A1_1 l1_1.length c1_1)] 29 (0, 0))) ∧ Aside0 (w'.heap[gb260]? = some (.cells #[.int .i64 x261000_5, (.slice none 0 0)] 29 (0, 0))) ∧ Aside0 (w'.heap[gb272]? = some (.cells #[.int .i64 x273000_5, u273001] 29 (0, 0))) ∧ Aside0 (w'.heap[gb278]? = some (.cells #[.int .i64 t274, (.slice Ao76 t275.length co76)] 29 (0, 0))) ∧ Aside0 (Below w.heap.size w w'))
             case atStart => exact ⟨(rd l0_1 x11_4), (x261000_4), (x273000_4), (x273001_4), (u273001), (by first | rfl | (simp; done) | (simp [*]; done)), H', ⟨Nat.le_refl _⟩, ⟨by (with_reducible repeat (first | apply Kd.R_alloc | apply Kd.R_drewN | apply Kd.R_drew)); exact Kd.R_mono (Kd.R_far (p := ⟨gb278, 1, none⟩) (Kd.R_far (p := ⟨gb278, 0, none⟩) (Kd.R_types HO_10.out BK278.out (by decide)) (fun _ hk => hk.2) (.int .i64 t274)) (fun _ hk => hk.2) (.slice Ao76 t275.length co76)) (fun _ hk => ⟨hk.1.2, hk.1.1⟩)⟩, ⟨by (with_reducible repeat (first | apply Kd.R_alloc | apply Kd.R_drewN | apply Kd.R_drew)); exact Kd.R_mono (Kd.R_far (p := ⟨gb278, 1, none⟩) (Kd.R_far (p := ⟨gb278, 0, none⟩) (Kd.R_types HO_273001.out BK278.out (by decide)) (fun _ hk => hk.2) (.int .i64 t274)) (fun _ hk => hk.2) (.slice Ao76 t275.length co76)) (fun _ hk => ⟨hk.1.2, hk.1.1⟩)⟩, ⟨by (with_reducible repeat (first | apply Kd.R_alloc | apply Kd.R_drewN | apply Kd.R_drew)); exact Kd.R_mono (Kd.R_far (p := ⟨gb278, 1, none⟩) (Kd.R_far (p := ⟨gb278, 0, none⟩) (Kd.R_types HO277.out BK278.out (by decide)) (fun _ hk => hk.2) (.int .i64 t274)) (fun _ hk => hk.2) (.slice Ao76 t275.length co76)) (fun _ hk => ⟨hk.1.1, hk.1.2⟩)⟩, ⟨bf BK258⟩, ⟨bf BK259⟩, ⟨bf BK260⟩, ⟨bf BK272⟩, ⟨by (with_reducible repeat (first | refine blk_drewN ?_ _ | refine blk_drew ?_ | refine blk_alloc ?_ _)); refine blk_put (cs := #[.int .i64 t274, .slice none 0 0]) ?_ 1 _ rfl; (with_reducible repeat (first | refine blk_drewN ?_ _ | refine blk_drew ?_ | refine blk_alloc ?_ _)); refine blk_put (cs := #[.int .i64 0, .slice none 0 0]) ?_ 0 _ rfl; (with_reducible repeat (first | refine blk_drewN ?_ _ | refine blk_drew ?_ | refine blk_alloc ?_ _)); exact BK278.out⟩, ⟨bks HB.out⟩⟩
             case round =>
              clear H'
              try clear c1; try clear c2; try clear p2; try clear q2; try clear hx2; try clear c3; try clear c4; try clear c5; try clear c6; try clear p6; try clear c7; try clear c8; try clear c9; try clear c10; try clear c11; try clear c13; try clear c14; try clear c17; try clear c18; try clear c21; try clear c22; try clear c23; try clear c25; try clear c25b0; try clear c26; try clear c26b0; try clear p26; try clear q26; try clear hx26; try clear p27; try clear q27; try clear hx27; try clear c28; try clear c29; try clear c32; try clear c33; try clear c35; try clear c35b0; try clear c35b1; try clear c36; try clear c36b0; try clear c37; try clear c38; try clear c40; try clear c42; try clear c43; try clear c45; try clear c47; try clear c48; try clear c50; try clear c52; try clear c53; try clear c54; try clear c66; try clear c66b0; try clear c67; try clear c67b0; try clear c69; try clear c69b0; try clear c78; try clear c79; try clear c80; try clear c81; try clear hcz12_0; try clear hcz12_1; try clear hcz15_0; try clear hcz15_1; try clear hcz19_0; try clear hcz19_1; try clear hcz24_0; try clear hcz24_1; try clear hcz30_0; try clear hcz30_1; try clear hcz34_0; try clear hcz34_1; try clear hcz39_0; try clear hcz39_1; try clear hcz41_0; try clear hcz41_1; try clear hcz44_0; try clear hcz44_1; try clear hcz46_0; try clear hcz46_1; try clear hcz49_0; try clear hcz49_1; try clear hcz51_0; try clear hcz51_1; try clear hcz55_0; try clear hcz55_1; try clear hcz82_0; try clear hcz82_1; try clear hfz12_0; try clear hfz12_1; try clear hfz15_0; try clear hfz15_1; try clear hfz19_0; try clear hfz19_1; try clear hfz24_0; try clear hfz24_1; try clear hfz30_0; try clear hfz30_1; try clear hfz34_0; try clear hfz34_1; try clear hfz39_0; try clear hfz39_1; try clear hfz41_0; try clear hfz41_1; try clear hfz44_0; try clear hfz44_1; try clear hfz46_0; try clear hfz46_1; try clear hfz49_0; try clear hfz49_1; try clear hfz51_0; try clear hfz51_1; try clear hfz55_0; try clear hfz55_1; try clear hfz82_0; try clear hfz82_1; try clear hx263_0; try clear hx264_0; try clear hx273_0; try clear hx279_0; try clear p2; try clear p26; try clear p263; try clear p264; try clear p273; try clear p279; try clear p6; try clear q2; try clear q26; try clear q263; try clear q264; try clear q273; try clear q279
              obtain ⟨x13_5, x261000_5, x273000_5, x273001_5, u273001, rfl, HA, HK5, HO_10, HO_273001, HO_279001, BK258, BK259, BK260, BK272, BK278, HB⟩ := hrel
              cases gk with
              | zero => exact absurd HA.out (by simp [spec_ActOnCyclo.l2])
              | succ k5 =>
               have H := HA.out
               clear HA
               simp only [spec_ActOnCyclo.l2] at H
               by_cases c83 : x13_5 > 0
               ·rw [if_pos c83] at H
                have c83b0 : decide (0 < x13_5) = true := decide_eq_true c83
                clear c83
                replace H := Option.bind_eq_some_iff.mp H
                obtain ⟨⟨t280, t281, t284⟩, A840, H⟩ := H
                try dsimp only at H
                have A84 := Aside0.mk A840
                clear A840
                by_cases c85 : t284 = true
                ·subst c85
                 have H1 : (spec_ActOnCyclo.l2 k5 t269 x11_4 (wrap64 (x13_5 - 1)) a0_0 l0_1 a1_0 l1_1 t280 t281 t274 t275) = some (r1, r2, r3) := by rw [if_pos rfl] at H; exact H
                 clear H
                 have H := H1
                 clear H1
                 have H' := Aside0.mk H
                 clear H
                 have hnb86 := NB272_258.out
                 have hnc86 := NB258_272.out
                 have hnb87 := NB272_259.out
                 have hnc87 := NB259_272.out
                 have hnb88 := NB272_260.out
                 have hnc88 := NB260_272.out
                 have hnb89 := NB272_278.out
                 have hnc89 := NB278_272.out
                 have hcz90_0 : wr.cell? ⟨gb272, 0, none⟩ = some (.int .i64 x273000_5) := (blk_cell BK272.out 0).trans rfl
                 have hcz90_1 : wr.cell? ⟨gb272, 1, none⟩ = some (u273001) := (blk_cell BK272.out 1).trans rfl
                 have hfz90_0 := blk_frozen BK272.out 0
                 have hfz90_1 := blk_frozen BK272.out 1
                 have hnb91 := NB278_258.out
                 have hnc91 := NB258_278.out
                 have hnb92 := NB278_259.out
                 have hnc92 := NB259_278.out
                 have hnb93 := NB278_260.out
                 have hnc93 := NB260_278.out
                 have hcz94_0 : wr.cell? ⟨gb278, 0, none⟩ = some (.int .i64 t274) := (blk_cell BK278.out 0).trans rfl
                 have hcz94_1 : wr.cell? ⟨gb278, 1, none⟩ = some (.slice Ao76 t275.length co76) := (blk_cell BK278.out 1).trans rfl
                 have hfz94_0 := blk_frozen BK278.out 0
                 have hfz94_1 := blk_frozen BK278.out 1
                 obtain ⟨Ao95, co95, eo95⟩ := Kd.R_slice HO_273001.out
                 subst eo95
                 go_wp2_with (first | ((with_reducible refine gate_callee (f := 100) rfl ?_); refine gl (some 90) Try.func100 #[.agg #[.int .i64 x273000_5, .slice Ao95 x273001_5.length co95], .agg #[.int .i64 t274, .slice Ao76 t275.length co76]] ?_; (with_reducible refine (spec_l01Times.calls k5 x273000_5 _ _ x273001_5 t274 _ _ t275 t280 t281 true _ ?side1 ?side2 ?side3 ?side4 A84.out).mono ?_); (case side1 => repeat (first | exact (Kd.R_reads' HO_273001.out).2.2 | (with_reducible refine Kd.C_alloc ?_ _) | (with_reducible refine Kd.C_drewN ?_ _) | (with_reducible refine Kd.C_drew ?_))); (case side2 => exact (Kd.R_reads' HO_273001.out).2.1); (case side3 => repeat (first | exact (Kd.R_reads' HO_279001.out).2.2 | (with_reducible refine Kd.C_alloc ?_ _) | (with_reducible refine Kd.C_drewN ?_ _) | (with_reducible refine Kd.C_drew ?_))); (case side4 => exact (Kd.R_reads' HO_279001.out).2.1); rintro e w96 ⟨v282, rfl, ho0, hb⟩; refine ⟨_, rfl, ?_⟩; have HO283 := Aside0.mk (Kd.R_lower (Kd.R_new' (Kd.R_new' (Kd.R_new' ho0 (Kd.R_lt (rk HO_10.out))) (Kd.R_lt (rk HO_273001.out))) (Kd.R_lt (rk HO_279001.out))) (below_size (bks HB.out))); replace HO_10 := re HO_10 ho0 hb; replace HO_273001 := re HO_273001 ho0 hb; replace HO_279001 := re HO_279001 ho0 hb; replace BK258 := bb BK258 hb; replace BK259 := bb BK259 hb; replace BK260 := bb BK260 hb; replace BK272 := bb BK272 hb; replace BK278 := bb BK278 hb; replace HB := hs HB hb; (try clear hb ho0)) | ((with_reducible refine gate_dst (N := 14) rfl ?_); refine bx 14 #[.int .i64 0, .slice none 0 0] 29 (fun gb285 hg w97 hbox hb => ?_); have BK285 := Aside0.mk hbox; have GW285 := ge HB hg; have GE285 := GW285; obtain ⟨NB258_285, NB285_258⟩ := nb BK258 hg; obtain ⟨NB259_285, NB285_259⟩ := nb BK259 hg; obtain ⟨NB260_285, NB285_260⟩ := nb BK260 hg; obtain ⟨NB272_285, NB285_272⟩ := nb BK272 hg; obtain ⟨NB278_285, NB285_278⟩ := nb BK278 hg; replace HO_10 := rb HO_10 hb; replace HO_273001 := rb HO_273001 hb; replace HO_279001 := rb HO_279001 hb; replace HO283 := rb HO283 hb; replace BK258 := bb BK258 hb; replace BK259 := bb BK259 hb; replace BK260 := bb BK260 hb; replace BK272 := bb BK272 hb; replace BK278 := bb BK278 hb; replace HB := hs HB hb; clear hb hbox hg; have hnb98 := NB285_258.out; have hnc98 := NB258_285.out; have hnb99 := NB285_259.out; have hnc99 := NB259_285.out; have hnb100 := NB285_260.out; have hnc100 := NB260_285.out; have hnb101 := NB285_272.out; have hnc101 := NB272_285.out; have hnb102 := NB285_278.out; have hnc102 := NB278_285.out; have hcz103_0 : w97.cell? ⟨gb285, 0, none⟩ = some (.int .i64 0) := (blk_cell BK285.out 0).trans rfl; have hcz103_1 : w97.cell? ⟨gb285, 1, none⟩ = some (.slice none 0 0) := (blk_cell BK285.out 1).trans rfl; have hfz103_0 := blk_frozen BK285.out 0; have hfz103_1 := blk_frozen BK285.out 1; obtain ⟨Ao104, co104, eo104⟩ := Kd.R_slice HO283.out; subst eo104; have hcz105_0 : w97.cell? ⟨gb272, 0, none⟩ = some (.int .i64 x273000_5) := (blk_cell BK272.out 0).trans rfl; have hcz105_1 : w97.cell? ⟨gb272, 1, none⟩ = some (.slice Ao95 x273001_5.length co95) := (blk_cell BK272.out 1).trans rfl; have hfz105_0 := blk_frozen BK272.out 0; have hfz105_1 := blk_frozen BK272.out 1))
                 go_roundg k5
                 case measure => have := HJ2.out; have := HK2.out; have := HJ30.out; have := HK4.out; have := HK5.out; omega
                 case rel => exact ⟨(wrap64 (x13_5 - 1)), (x261000_5), (t280), (t281), (.slice Ao104 t281.length co104), (by first | rfl | (simp; done) | (simp [*]; done)), H', ⟨by have := HJ2.out; have := HK2.out; have := HJ30.out; have := HK4.out; have := HK5.out; omega⟩, ⟨by (with_reducible repeat (first | apply Kd.R_alloc | apply Kd.R_drewN | apply Kd.R_drew)); exact Kd.R_mono (Kd.R_far (p := ⟨gb272, 1, none⟩) (Kd.R_far (p := ⟨gb272, 0, none⟩) (Kd.R_far (p := ⟨gb285, 1, none⟩) (Kd.R_far (p := ⟨gb285, 0, none⟩) (Kd.R_types (Kd.R_types HO_10.out BK285.out (by decide)) BK272.out (by decide)) (fun _ hk => hk.1.2) (.int .i64 t280)) (fun _ hk => hk.1.2) (.slice Ao104 t281.length co104)) (fun _ hk => hk.2) (.int .i64 t280)) (fun _ hk => hk.2) (.slice Ao104 t281.length co104)) (fun _ hk => ⟨hk.1.1.2, hk.1.1.1.2⟩)⟩, ⟨by (with_reducible repeat (first | apply Kd.R_alloc | apply Kd.R_drewN | apply Kd.R_drew)); exact Kd.R_mono (Kd.R_far (p := ⟨gb272, 1, none⟩) (Kd.R_far (p := ⟨gb272, 0, none⟩) (Kd.R_far (p := ⟨gb285, 1, none⟩) (Kd.R_far (p := ⟨gb285, 0, none⟩) (Kd.R_types (Kd.R_types HO283.out BK285.out (by decide)) BK272.out (by decide)) (fun _ hk => hk.1.2) (.int .i64 t280)) (fun _ hk => hk.1.2) (.slice Ao104 t281.length co104)) (fun _ hk => hk.2) (.int .i64 t280)) (fun _ hk => hk.2) (.slice Ao104 t281.length co104)) (fun _ hk => ⟨hk.1.1.1.1.2, hk.1.1.2⟩)⟩, ⟨by (with_reducible repeat (first | apply Kd.R_alloc | apply Kd.R_drewN | apply Kd.R_drew)); exact Kd.R_mono (Kd.R_far (p := ⟨gb272, 1, none⟩) (Kd.R_far (p := ⟨gb272, 0, none⟩) (Kd.R_far (p := ⟨gb285, 1, none⟩) (Kd.R_far (p := ⟨gb285, 0, none⟩) (Kd.R_types (Kd.R_types HO_279001.out BK285.out (by decide)) BK272.out (by decide)) (fun _ hk => hk.1.2) (.int .i64 t280)) (fun _ hk => hk.1.2) (.slice Ao104 t281.length co104)) (fun _ hk => hk.2) (.int .i64 t280)) (fun _ hk => hk.2) (.slice Ao104 t281.length co104)) (fun _ hk => ⟨hk.1.1.1.1, hk.1.1.2⟩)⟩, ⟨bf BK258⟩, ⟨bf BK259⟩, ⟨bf BK260⟩, ⟨by (with_reducible repeat (first | refine blk_drewN ?_ _ | refine blk_drew ?_ | refine blk_alloc ?_ _)); refine blk_put (cs := #[.int .i64 t280, .slice Ao95 x273001_5.length co95]) ?_ 1 _ rfl; (with_reducible repeat (first | refine blk_drewN ?_ _ | refine blk_drew ?_ | refine blk_alloc ?_ _)); refine blk_put (cs := #[.int .i64 x273000_5, .slice Ao95 x273001_5.length co95]) ?_ 0 _ rfl; (with_reducible repeat (first | refine blk_drewN ?_ _ | refine blk_drew ?_ | refine blk_alloc ?_ _)); refine blk_far ?_ NB272_285.out _; (with_reducible repeat (first | refine blk_drewN ?_ _ | refine blk_drew ?_ | refine blk_alloc ?_ _)); refine blk_far ?_ NB272_285.out _; (with_reducible repeat (first | refine blk_drewN ?_ _ | refine blk_drew ?_ | refine blk_alloc ?_ _)); exact BK272.out⟩, ⟨bf BK278⟩, ⟨bks HB.out⟩⟩
                ·replace c85 := Bool.eq_false_iff.mpr c85
                 subst c85
                 have H1 : (some (0, ([] : List Int), 3)) = some (r1, r2, r3) := by rw [if_neg (show ¬ (false = true) by decide)] at H; exact H
                 clear H
                 have H := H1
                 clear H1
                 simp only [Option.some.injEq, Prod.mk.injEq] at H
                 obtain ⟨rfl, rfl, rfl⟩ := H
                 have hnb106 := NB272_258.out
                 have hnc106 := NB258_272.out
                 have hnb107 := NB272_259.out
                 have hnc107 := NB259_272.out
                 have hnb108 := NB272_260.out
                 have hnc108 := NB260_272.out
                 have hnb109 := NB272_278.out
                 have hnc109 := NB278_272.out
                 have hcz110_0 : wr.cell? ⟨gb272, 0, none⟩ = some (.int .i64 x273000_5) := (blk_cell BK272.out 0).trans rfl
                 have hcz110_1 : wr.cell? ⟨gb272, 1, none⟩ = some (u273001) := (blk_cell BK272.out 1).trans rfl
                 have hfz110_0 := blk_frozen BK272.out 0
                 have hfz110_1 := blk_frozen BK272.out 1
                 have hnb111 := NB278_258.out
                 have hnc111 := NB258_278.out
                 have hnb112 := NB278_259.out
                 have hnc112 := NB259_278.out
                 have hnb113 := NB278_260.out
                 have hnc113 := NB260_278.out
                 have hcz114_0 : wr.cell? ⟨gb278, 0, none⟩ = some (.int .i64 t274) := (blk_cell BK278.out 0).trans rfl
                 have hcz114_1 : wr.cell? ⟨gb278, 1, none⟩ = some (.slice Ao76 t275.length co76) := (blk_cell BK278.out 1).trans rfl
                 have hfz114_0 := blk_frozen BK278.out 0
                 have hfz114_1 := blk_frozen BK278.out 1
                 obtain ⟨Ao115, co115, eo115⟩ := Kd.R_slice HO_273001.out
                 subst eo115
                 go_wp2_with (first | ((with_reducible refine gate_callee (f := 100) rfl ?_); refine gl (some 90) Try.func100 #[.agg #[.int .i64 x273000_5, .slice Ao115 x273001_5.length co115], .agg #[.int .i64 t274, .slice Ao76 t275.length co76]] ?_; (with_reducible refine (spec_l01Times.calls k5 x273000_5 _ _ x273001_5 t274 _ _ t275 t280 t281 false _ ?side1 ?side2 ?side3 ?side4 A84.out).mono ?_); (case side1 => repeat (first | exact (Kd.R_reads' HO_273001.out).2.2 | (with_reducible refine Kd.C_alloc ?_ _) | (with_reducible refine Kd.C_drewN ?_ _) | (with_reducible refine Kd.C_drew ?_))); (case side2 => exact (Kd.R_reads' HO_273001.out).2.1); (case side3 => repeat (first | exact (Kd.R_reads' HO_279001.out).2.2 | (with_reducible refine Kd.C_alloc ?_ _) | (with_reducible refine Kd.C_drewN ?_ _) | (with_reducible refine Kd.C_drew ?_))); (case side4 => exact (Kd.R_reads' HO_279001.out).2.1); rintro e w116 ⟨v282, rfl, ho0, hb⟩; refine ⟨_, rfl, ?_⟩; have HO283 := Aside0.mk (Kd.R_lower (Kd.R_new' (Kd.R_new' (Kd.R_new' ho0 (Kd.R_lt (rk HO_10.out))) (Kd.R_lt (rk HO_273001.out))) (Kd.R_lt (rk HO_279001.out))) (below_size (bks HB.out))); replace HO_10 := re HO_10 ho0 hb; replace HO_273001 := re HO_273001 ho0 hb; replace HO_279001 := re HO_279001 ho0 hb; replace BK258 := bb BK258 hb; replace BK259 := bb BK259 hb; replace BK260 := bb BK260 hb; replace BK272 := bb BK272 hb; replace BK278 := bb BK278 hb; replace HB := hs HB hb; (try clear hb ho0)) | ((with_reducible refine gate_dst (N := 14) rfl ?_); refine bx 14 #[.int .i64 0, .slice none 0 0] 29 (fun gb285 hg w117 hbox hb => ?_); have BK285 := Aside0.mk hbox; have GW285 := ge HB hg; have GE285 := GW285; obtain ⟨NB258_285, NB285_258⟩ := nb BK258 hg; obtain ⟨NB259_285, NB285_259⟩ := nb BK259 hg; obtain ⟨NB260_285, NB285_260⟩ := nb BK260 hg; obtain ⟨NB272_285, NB285_272⟩ := nb BK272 hg; obtain ⟨NB278_285, NB285_278⟩ := nb BK278 hg; replace HO_10 := rb HO_10 hb; replace HO_273001 := rb HO_273001 hb; replace HO_279001 := rb HO_279001 hb; replace HO283 := rb HO283 hb; replace BK258 := bb BK258 hb; replace BK259 := bb BK259 hb; replace BK260 := bb BK260 hb; replace BK272 := bb BK272 hb; replace BK278 := bb BK278 hb; replace HB := hs HB hb; clear hb hbox hg; have hnb118 := NB285_258.out; have hnc118 := NB258_285.out; have hnb119 := NB285_259.out; have hnc119 := NB259_285.out; have hnb120 := NB285_260.out; have hnc120 := NB260_285.out; have hnb121 := NB285_272.out; have hnc121 := NB272_285.out; have hnb122 := NB285_278.out; have hnc122 := NB278_285.out; have hcz123_0 : w117.cell? ⟨gb285, 0, none⟩ = some (.int .i64 0) := (blk_cell BK285.out 0).trans rfl; have hcz123_1 : w117.cell? ⟨gb285, 1, none⟩ = some (.slice none 0 0) := (blk_cell BK285.out 1).trans rfl; have hfz123_0 := blk_frozen BK285.out 0; have hfz123_1 := blk_frozen BK285.out 1; obtain ⟨Ao124, co124, eo124⟩ := Kd.R_slice HO283.out; subst eo124; have hnb125 := NB260_258.out; have hnc125 := NB258_260.out; have hnb126 := NB260_259.out; have hnc126 := NB259_260.out; have hcz127_0 : w117.cell? ⟨gb260, 0, none⟩ = some (.int .i64 x261000_5) := (blk_cell BK260.out 0).trans rfl; have hcz127_1 : w117.cell? ⟨gb260, 1, none⟩ = some (.slice none 0 0) := (blk_cell BK260.out 1).trans rfl; have hfz127_0 := blk_frozen BK260.out 0; have hfz127_1 := blk_frozen BK260.out 1))
                 refine bodyPost_ret (results_ct rfl _ _ gb260 29 #[.int .i64 0, .slice none 0 0] (0, 0) _ rfl (by (with_reducible repeat (first | refine blk_drewN ?_ _ | refine blk_drew ?_ | refine blk_alloc ?_ _)); refine blk_put (cs := #[.int .i64 0, .slice none 0 0]) ?_ 1 _ rfl; (with_reducible repeat (first | refine blk_drewN ?_ _ | refine blk_drew ?_ | refine blk_alloc ?_ _)); refine blk_put (cs := #[.int .i64 x261000_5, .slice none 0 0]) ?_ 0 _ rfl; (with_reducible repeat (first | refine blk_drewN ?_ _ | refine blk_drew ?_ | refine blk_alloc ?_ _)); refine blk_far ?_ NB260_285.out _; (with_reducible repeat (first | refine blk_drewN ?_ _ | refine blk_drew ?_ | refine blk_alloc ?_ _)); refine blk_far ?_ NB260_285.out _; (with_reducible repeat (first | refine blk_drewN ?_ _ | refine blk_drew ?_ | refine blk_alloc ?_ _)); exact BK260.out) Try.underlying29 rfl (by kernel_rfl)) rfl ?_
                 exact ⟨_, by first | rfl | (simp [errW_none, errW_some] <;> rfl) | (simp [*, errW_none, errW_some] <;> rfl), by first | exact Kd.R_nil _ _ _ _ _ | exact Kd.N_nil _ _ _ _ _ | exact Kd.V_nil _ _ _ _ _ | exact Kd.Q_nil _ _ _ _ _ | exact Kd.S_nil _ _ _ _ _, bks HB.out⟩
               ·rw [if_neg c83] at H
                have c83b0 : decide (0 < x13_5) = false := decide_eq_false c83
                clear c83
                have H' := Aside0.mk H
                clear H
                go_wp2
                go_roundg k5
                case measure => have := HJ2.out; have := HK2.out; have := HJ30.out; have := HK4.out; have := HK5.out; omega
                case rel => exact ⟨(wrap64 (x11_4 + 1)), (x261000_5), (x273000_5), (x273001_5), (u273001), (by first | rfl | (simp; done) | (simp [*]; done)), H', ⟨by have := HJ2.out; have := HK2.out; have := HJ30.out; have := HK4.out; have := HK5.out; omega⟩, ⟨rk (Kd.R_mono HO_10.out (fun _ hk => hk.1))⟩, ⟨rk (Kd.R_mono HO_273001.out (fun _ hk => hk.1))⟩, ⟨pk BK258.out⟩, ⟨pk BK259.out⟩, ⟨pk BK260.out⟩, ⟨pk BK272.out⟩, ⟨bks HB.out⟩⟩
            ·rw [if_neg c66] at H
             have c66b0 : decide (x11_4 < (t269.length : Int)) = false := decide_eq_false c66
             clear c66
             simp only [Option.some.injEq, Prod.mk.injEq] at H
             obtain ⟨rfl, rfl, rfl⟩ := H
             obtain ⟨Ao128, co128, eo128⟩ := Kd.R_slice HO_10.out
             subst eo128
             have hnb129 := NB272_258.out
             have hnc129 := NB258_272.out
             have hnb130 := NB272_259.out
             have hnc130 := NB259_272.out
             have hnb131 := NB272_260.out
             have hnc131 := NB260_272.out
             have hcz132_0 : wr.cell? ⟨gb272, 0, none⟩ = some (.int .i64 x273000_4) := (blk_cell BK272.out 0).trans rfl
             have hcz132_1 : wr.cell? ⟨gb272, 1, none⟩ = some (u273001) := (blk_cell BK272.out 1).trans rfl
             have hfz132_0 := blk_frozen BK272.out 0
             have hfz132_1 := blk_frozen BK272.out 1
             have hnb133 := NB260_258.out
             have hnc133 := NB258_260.out
             have hnb134 := NB260_259.out
             have hnc134 := NB259_260.out
             have hcz135_0 : wr.cell? ⟨gb260, 0, none⟩ = some (.int .i64 x261000_4) := (blk_cell BK260.out 0).trans rfl
             have hcz135_1 : wr.cell? ⟨gb260, 1, none⟩ = some (.slice none 0 0) := (blk_cell BK260.out 1).trans rfl
             have hfz135_0 := blk_frozen BK260.out 0
             have hfz135_1 := blk_frozen BK260.out 1
             obtain ⟨Ao136, co136, eo136⟩ := Kd.R_slice HO_273001.out
             subst eo136
             go_wp2
             refine bodyPost_ret (results_ct rfl _ _ gb260 29 #[.int .i64 x273000_4, .slice Ao136 x273001_4.length co136] (0, 0) _ rfl (by (with_reducible repeat (first | refine blk_drewN ?_ _ | refine blk_drew ?_ | refine blk_alloc ?_ _)); refine blk_put (cs := #[.int .i64 x273000_4, .slice none 0 0]) ?_ 1 _ rfl; (with_reducible repeat (first | refine blk_drewN ?_ _ | refine blk_drew ?_ | refine blk_alloc ?_ _)); refine blk_put (cs := #[.int .i64 x261000_4, .slice none 0 0]) ?_ 0 _ rfl; (with_reducible repeat (first | refine blk_drewN ?_ _ | refine blk_drew ?_ | refine blk_alloc ?_ _)); exact BK260.out) Try.underlying29 rfl (by kernel_rfl)) rfl ?_
             exact ⟨_, by first | rfl | (simp [errW_none, errW_some] <;> rfl) | (simp [*, errW_none, errW_some] <;> rfl), by (with_reducible repeat (first | apply Kd.R_alloc | apply Kd.R_drewN | apply Kd.R_drew)); exact Kd.R_mono (Kd.R_far (p := ⟨gb260, 1, none⟩) (Kd.R_far (p := ⟨gb260, 0, none⟩) (Kd.R_types HO_273001.out BK260.out (by decide)) (fun _ hk => hk.2) (.int .i64 x273000_4)) (fun _ hk => hk.2) (.slice Ao136 x273001_4.length co136)) (fun _ hk => trivial), bks HB.out⟩

end Go.Proofs.Ytdnpkbhapdkikaa.PFnExactActOnCyclo
