-- LAID BY pp.py (a program of this repo): what the kit's print tells of this seat's functions, with contracts by hand
import Derived.Test.YtdnpkbhapdkikaaZPFnExactActOnCyclox0
import Derived.Test.YtdnpkbhapdkikaaZPFnExactActOnCyclox1
import Derived.Test.YtdnpkbhapdkikaaZPFnExactActOnCyclox2
import Derived.Test.YtdnpkbhapdkikaaZPFnExactActOnCyclox4
namespace Go.Proofs.Ytdnpkbhapdkikaa.PFnExactActOnCyclo
open Go.RowKit Go.Proofs.YtdnpkbhapdkikaaW.PrintWords Go.Proofs.YtdnpkbhapdkikaaW.PrintLast Go.Proofs.YtdnpkbhapdkikaaW.PrintMore
attribute [local go_sem] max2_int min2_int max_two min_two max_three min_three max_four min_four   -- for this text's walks alone
set_option linter.unusedVariables false
set_option linter.unusedSimpArgs false

/-! ### spec_l01Times: function 100 -/
mutual
def spec_l01Times.l0 : Nat → List Int → List Int → Int → Int → List Int → Int → List Int → Option (Int × List Int × Bool)
 | 0, _, _, _, _, _, _, _ => none
 | k + 1, x6, x7, x8, x221000, x221001, x222000, x222001 => if x8 < (x222001.length : Int) then (if 0 ≤ x8 then (if x6.length < 17592186044416 then (if x7.length < 17592186044416 then (spec_l01Times.l0 k (x6 ++ [Int.tmod (rd x222001 x8) 100000]) (x7 ++ [wrap64 (Int.tdiv (rd x222001 x8) 100000)]) (wrap64 (x8 + 1)) x221000 x221001 x222000 x222001) else (none)) else (none)) else (none)) else ((spec_l01Product.f k x221000 x221001 x6).bind fun bt237 => ((spec_l01Product.f k x221000 x221001 x7).bind fun bt241 => ((spec_l01Zero.f k x221000).bind fun bt247 => (spec_l01Times.l1 k 0 bt237.1 bt237.2 bt241.1 bt241.2 bt247.1 bt247.2))))
def spec_l01Times.l1 : Nat → Int → Int → List Int → Int → List Int → Int → List Int → Option (Int × List Int × Bool)
 | 0, _, _, _, _, _, _, _ => none
 | k + 1, x12, x246000, x246001, x247000, x247001, x252000, x252001 => if x12 < (x252001.length : Int) then (if 0 ≤ x12 then (if x12 < (x247001.length : Int) then ((spec_l01In.f (rd x247001 x12) (-10000000000000) 10000000000000).bind fun t253 => (if t253 = true then (if x12 < (x246001.length : Int) then (spec_l01Times.l1 k (wrap64 (x12 + 1)) x246000 x246001 x247000 x247001 x252000 (x252001.set (x12 : Int).toNat (wrap64 ((wrap64 ((rd x247001 x12) * 100000)) + (rd x246001 x12))))) else (none)) else (some (x252000, x252001, false)))) else (none)) else (none)) else ((spec_l01Fits.f k x252000 x252001).bind fun t257 => (some (x252000, x252001, t257)))
end
def spec_l01Times.f (k : Nat) (a0_0 : Int) (l0_1 : List Int) (a1_0 : Int) (l1_1 : List Int) : Option (Int × List Int × Bool) := spec_l01Times.l0 k (([] : List Int)) (([] : List Int)) 0 a0_0 l0_1 a1_0 l1_1
theorem spec_l01Times.mono_l : ∀ k, (∀ y0 y1 y2 y3 y4 y5 y6, LeO (spec_l01Times.l0 k y0 y1 y2 y3 y4 y5 y6) (spec_l01Times.l0 (k + 1) y0 y1 y2 y3 y4 y5 y6)) ∧ (∀ y0 y1 y2 y3 y4 y5 y6, LeO (spec_l01Times.l1 k y0 y1 y2 y3 y4 y5 y6) (spec_l01Times.l1 (k + 1) y0 y1 y2 y3 y4 y5 y6))
 | 0 => ⟨fun _ _ _ _ _ _ _ r h => by simp [spec_l01Times.l0] at h, fun _ _ _ _ _ _ _ r h => by simp [spec_l01Times.l1] at h⟩
 | k + 1 => by
  obtain ⟨ih0, ih1⟩ := spec_l01Times.mono_l k
  refine ⟨?_, ?_⟩
  ·intro y0 y1 y2 y3 y4 y5 y6
   unfold spec_l01Times.l0
   repeat' first | (with_reducible first | exact ih0 _ _ _ _ _ _ _ | exact ih1 _ _ _ _ _ _ _ | exact spec_l01Fits.mono _ _ _ | exact spec_l01Product.mono _ _ _ _ | exact spec_l01Zero.mono _ _ | exact LeO.refl _ | exact LeO.none _ | refine LeO.ite ?_ ?_ | refine LeO.bind ?_ (fun _ => ?_)) | exact ih0 _ _ _ _ _ _ _ | exact ih1 _ _ _ _ _ _ _ | exact LeO.none _ | refine LeO.ite ?_ ?_ | refine LeO.bind ?_ (fun _ => ?_)
  ·intro y0 y1 y2 y3 y4 y5 y6
   unfold spec_l01Times.l1
   repeat' first | (with_reducible first | exact ih0 _ _ _ _ _ _ _ | exact ih1 _ _ _ _ _ _ _ | exact spec_l01Fits.mono _ _ _ | exact spec_l01Product.mono _ _ _ _ | exact spec_l01Zero.mono _ _ | exact LeO.refl _ | exact LeO.none _ | refine LeO.ite ?_ ?_ | refine LeO.bind ?_ (fun _ => ?_)) | exact ih0 _ _ _ _ _ _ _ | exact ih1 _ _ _ _ _ _ _ | exact LeO.none _ | refine LeO.ite ?_ ?_ | refine LeO.bind ?_ (fun _ => ?_)
theorem spec_l01Times.mono : ∀ a0 a1 a2 a3 k, LeO (spec_l01Times.f k a0 a1 a2 a3) (spec_l01Times.f (k + 1) a0 a1 a2 a3) := by
 intro a0 a1 a2 a3 k
 obtain ⟨ih0, ih1⟩ := spec_l01Times.mono_l k
 unfold spec_l01Times.f
 repeat' first | (with_reducible first | exact ih0 _ _ _ _ _ _ _ | exact ih1 _ _ _ _ _ _ _ | exact spec_l01Fits.mono _ _ _ | exact spec_l01Product.mono _ _ _ _ | exact spec_l01Zero.mono _ _ | exact LeO.refl _ | exact LeO.none _ | refine LeO.ite ?_ ?_ | refine LeO.bind ?_ (fun _ => ?_)) | exact ih0 _ _ _ _ _ _ _ | exact ih1 _ _ _ _ _ _ _ | exact LeO.none _ | refine LeO.ite ?_ ?_ | refine LeO.bind ?_ (fun _ => ?_)
def spec_l01Times.T7 : Bool × List (List Nat × List Nat) := (true, [([], []), ([], []), ([0, 1], [0, 1]), ([], []), ([], []), ([3, 4, 2], [3, 4]), ([], []), ([], []), ([6, 2, 5, 0, 1, 2, 6, 7], [2, 6]), ([7, 5, 8, 0, 1, 2, 3, 4, 5, 6, 7, 8], [5, 7])])
def spec_l01Times.B7 : List Nat := [0, 0, 3, 0, 0, 31, 0, 0, 255, 511]
theorem spec_l01Times.tab7 : rtab .any (opsOf Try.f100 7) = spec_l01Times.T7 := by kernel_rfl
theorem spec_l01Times.bits7 : waitsOk spec_l01Times.T7.2 spec_l01Times.B7 = true := by kernel_rfl
def spec_l01Times.T14 : Bool × List (List Nat × List Nat) := (true, [([], []), ([0], [0]), ([], []), ([], []), ([3], [3]), ([], []), ([4, 5], [4, 5]), ([6], [6]), ([7], [7]), ([], []), ([9], [9]), ([], []), ([10, 11], [10, 11]), ([12], [12]), ([8, 13], [8, 13]), ([1, 2, 0, 1, 2, 3, 4, 5, 6, 7, 8, 9, 10, 11, 12, 13, 14], [1, 2]), ([15, 14, 0, 1, 2, 3, 4, 5, 6, 7, 8, 9, 10, 11, 12, 13, 14], [14, 15])])
def spec_l01Times.B14 : List Nat := [0, 1, 0, 0, 8, 0, 56, 120, 248, 0, 512, 0, 3584, 7680, 16376, 32767, 65535]
theorem spec_l01Times.tab14 : rtab .any (opsOf Try.f100 14) = spec_l01Times.T14 := by kernel_rfl
theorem spec_l01Times.bits14 : waitsOk spec_l01Times.T14.2 spec_l01Times.B14 = true := by kernel_rfl
set_option maxHeartbeats 8000000 in
set_option maxRecDepth 100000 in
theorem spec_l01Times.calls (k : Nat) (a0_0 : Int) (A0_1 : Option Addr) (c0_1 : Nat) (l0_1 : List Int) (a1_0 : Int) (A1_1 : Option Addr) (c1_1 : Nat) (l1_1 : List Int) (r1 : Int) (r2 : List Int) (r3 : Bool) (w : World) (hr0_1 : Kd.C (Kd.int .i64) w A0_1 l0_1.length l0_1) (hc0_1 : l0_1.length ≤ c0_1) (hr1_1 : Kd.C (Kd.int .i64) w A1_1 l1_1.length l1_1) (hc1_1 : l1_1.length ≤ c1_1) (h : spec_l01Times.f k a0_0 l0_1 a1_0 l1_1 = some (r1, r2, r3)) :
  Calls Try.prog 100 #[.agg #[.int .i64 a0_0, .slice A0_1 l0_1.length c0_1], .agg #[.int .i64 a1_0, .slice A1_1 l1_1.length c1_1]] w fun e w' => ∃ v1_ : Value, e = .returned (.tuple #[.agg #[.int .i64 r1, v1_], .bool r3]) ∧ Kd.R (Kd.int .i64) 2 w' w.heap.size (fun _ => True) v1_ r2 ∧ Below w.heap.size w w' := by
 have hu29 := Try.underlying29
 have HR0_1 := Aside0.mk hr0_1
 have HC0_1 := Aside0.mk hc0_1
 clear hr0_1 hc0_1
 have HR1_1 := Aside0.mk hr1_1
 have HC1_1 := Aside0.mk hc1_1
 clear hr1_1 hc1_1
 have HB := Aside0.mk (Below.refl w.heap.size w)
 have H : (spec_l01Times.l0 k (([] : List Int)) (([] : List Int)) 0 a0_0 l0_1 a1_0 l1_1) = some (r1, r2, r3) := h
 clear h
 obtain ⟨y223, hy223⟩ : ∃ y_ : List Int, y_ = (([] : List Int)) := ⟨_, rfl⟩
 replace H : (spec_l01Times.l0 k y223 (([] : List Int)) 0 a0_0 l0_1 a1_0 l1_1) = some (r1, r2, r3) := by first | (rw [hy223]; with_reducible exact H) | (have H2_ := (Option.bind_some _ _).symm.trans H; rw [hy223]; with_reducible exact H2_) | (have H2_ := (Option.bind_some _ _).symm.trans H; with_reducible exact H2_) | with_reducible exact H | (rw [hy223]; exact H) | exact H
 have Ny223 := Aside0.mk hy223
 clear hy223
 obtain ⟨y226, hy226⟩ : ∃ y_ : List Int, y_ = (([] : List Int)) := ⟨_, rfl⟩
 replace H : (spec_l01Times.l0 k y223 y226 0 a0_0 l0_1 a1_0 l1_1) = some (r1, r2, r3) := by first | (rw [hy226]; with_reducible exact H) | (have H2_ := (Option.bind_some _ _).symm.trans H; rw [hy226]; with_reducible exact H2_) | (have H2_ := (Option.bind_some _ _).symm.trans H; with_reducible exact H2_) | with_reducible exact H | (rw [hy226]; exact H) | exact H
 have Ny226 := Aside0.mk hy226
 clear hy226
 have H' := Aside0.mk H
 clear H
 go_enter Try.func100, Try.ntmps100
 go_wp2_with (first | ((with_reducible refine gate_dst (N := 2) rfl ?_); refine bx 2 #[.int .i64 a0_0, .slice A0_1 l0_1.length c0_1] 29 (fun gb220 hg w3 hbox hb => ?_); have BK220 := Aside0.mk hbox; have GW220 := ge HB hg; have GE220 := GW220; replace HB := hs HB hb; clear hb hbox hg) | ((with_reducible refine gate_dst (N := 3) rfl ?_); refine bx 3 #[.int .i64 a1_0, .slice A1_1 l1_1.length c1_1] 29 (fun gb221 hg w4 hbox hb => ?_); have BK221 := Aside0.mk hbox; have GW221 := ge HB hg; have GE221 := GW221; obtain ⟨NB220_221, NB221_220⟩ := nb BK220 hg; replace BK220 := bb BK220 hb; replace HB := hs HB hb; clear hb hbox hg) | ((with_reducible refine gate_dst (N := 4) rfl ?_); refine bx 4 #[.int .i64 0, .slice none 0 0] 29 (fun gb222 hg w5 hbox hb => ?_); have BK222 := Aside0.mk hbox; have GW222 := ge HB hg; have GE222 := GW222; obtain ⟨NB220_222, NB222_220⟩ := nb BK220 hg; obtain ⟨NB221_222, NB222_221⟩ := nb BK221 hg; replace BK220 := bb BK220 hb; replace BK221 := bb BK221 hb; replace HB := hs HB hb; clear hb hbox hg) | ((with_reducible refine gate_dst (N := 13) rfl ?_); refine Kd.R_lit (Kd.int .i64) _ 2 ?hg (N := 13) ?hd (xs := ([] : List Int)) (inner := []) (ok := fun _ => True) (okp := fun _ => True) ?hr ?hp (fun _ hk => hk) trivial (Below.refl _ _) (Nat.le_refl _) (by simp) ?_; (case hd => rfl); (case hg => rfl); (case hr => first | (go_simp; done) | (go_simp; rfl)); (case hp => exact (Reps.none _ _)); intro v224 w6 ho7 hb hg_ hnew_; clear hg_ hnew_; (first | rw [← Ny223.out] at ho7 | (simp only [Int.reduceToNat] at ho7; rw [← Ny223.out] at ho7)); have HO225 := Aside0.mk (Kd.R_lower ho7 (below_size (bks HB.out))); replace BK220 := bb BK220 hb; replace BK221 := bb BK221 hb; replace BK222 := bb BK222 hb; replace HB := hs HB hb; clear hb ho7) | ((with_reducible refine gate_dst (N := 14) rfl ?_); refine Kd.R_lit (Kd.int .i64) _ 2 ?hg (N := 14) ?hd (xs := ([] : List Int)) (inner := []) (ok := fun _ => True) (okp := fun _ => True) ?hr ?hp (fun _ hk => hk) trivial (Below.refl _ _) (Nat.le_refl _) (by simp) ?_; (case hd => rfl); (case hg => rfl); (case hr => first | (go_simp; done) | (go_simp; rfl)); (case hp => exact (Reps.none _ _)); intro v227 w8 ho9 hb hg_ hnew_; clear hg_ hnew_; (first | rw [← Ny226.out] at ho9 | (simp only [Int.reduceToNat] at ho9; rw [← Ny226.out] at ho9)); have HO228 := Aside0.mk (Kd.R_lower (Kd.R_new' ho9 (Kd.R_lt (rk HO225.out))) (below_size (bks HB.out))); replace HO225 := re HO225 ho9 hb; replace BK220 := bb BK220 hb; replace BK221 := bb BK221 hb; replace BK222 := bb BK222 hb; replace HB := hs HB hb; clear hb ho9))
 go_loopg [6, 7, 8] k (fun kq v6 v7 v8 w' => ∃ (x6_1 : List Int) (x7_1 : List Int) (x8_1 : Int), v8 = .int .i64 x8_1 ∧ Aside0 (spec_l01Times.l0 kq x6_1 x7_1 x8_1 a0_0 l0_1 a1_0 l1_1 = some (r1, r2, r3)) ∧ Aside0 (kq ≤ k) ∧ Aside0 (Kd.R (Kd.int .i64) 2 w' w.heap.size (fun k_ => some k_ ≠ (v7 : Value).ownBlock) v6 x6_1) ∧ Aside0 (Kd.R (Kd.int .i64) 2 w' w.heap.size (fun k_ => some k_ ≠ (v6 : Value).ownBlock) v7 x7_1) ∧ Aside0 (w'.heap[gb220]? = some (.cells #[.int .i64 a0_0, (.slice A0_1 l0_1.length c0_1)] 29 (0, 0))) ∧ Aside0 (w'.heap[gb221]? = some (.cells #[.int .i64 a1_0, (.slice A1_1 l1_1.length c1_1)] 29 (0, 0))) ∧ Aside0 (w'.heap[gb222]? = some (.cells #[.int .i64 0, (.slice none 0 0)] 29 (0, 0))) ∧ Aside0 (Below w.heap.size w w'))
 case atStart => exact ⟨(y223), (y226), (0), (by first | rfl | (simp; done) | (simp [*]; done)), H', ⟨Nat.le_refl _⟩, ⟨rk (Kd.R_mono HO225.out (fun _ hk => hk.2))⟩, ⟨rk (Kd.R_mono HO228.out (fun _ hk => hk.2))⟩, ⟨pk BK220.out⟩, ⟨pk BK221.out⟩, ⟨pk BK222.out⟩, ⟨bks HB.out⟩⟩
 case round =>
  clear H'
  try clear c1; try clear p2
  obtain ⟨x6_1, x7_1, x8_1, rfl, HA, HK1, HO_6, HO_7, BK220, BK221, BK222, HB⟩ := hrel
  cases gk with
  | zero => exact absurd HA.out (by simp [spec_l01Times.l0])
  | succ k1 =>
   have H := HA.out
   clear HA
   simp only [spec_l01Times.l0] at H
   by_cases c10 : x8_1 < (l1_1.length : Int)
   ·rw [if_pos c10] at H
    have c10b0 : decide (x8_1 < (l1_1.length : Int)) = true := decide_eq_true c10
    clear c10
    by_cases c11 : 0 ≤ x8_1
    rotate_left
    ·rw [if_neg c11] at H; exact absurd H (by simp)
    rw [if_pos c11] at H
    have c11b0 : decide (0 ≤ x8_1) = true := decide_eq_true c11
    clear c11
    by_cases c12 : x6_1.length < 17592186044416
    rotate_left
    ·rw [if_neg c12] at H; exact absurd H (by simp)
    rw [if_pos c12] at H
    have LMc12 := Aside0.mk c12
    clear c12
    obtain ⟨y230, hy230⟩ : ∃ y_ : List Int, y_ = (x6_1 ++ [Int.tmod (rd l1_1 x8_1) 100000]) := ⟨_, rfl⟩
    replace H : (if x7_1.length < 17592186044416 then (spec_l01Times.l0 k1 y230 (x7_1 ++ [wrap64 (Int.tdiv (rd l1_1 x8_1) 100000)]) (wrap64 (x8_1 + 1)) a0_0 l0_1 a1_0 l1_1) else (none)) = some (r1, r2, r3) := by first | (rw [hy230]; with_reducible exact H) | (have H2_ := (Option.bind_some _ _).symm.trans H; rw [hy230]; with_reducible exact H2_) | (have H2_ := (Option.bind_some _ _).symm.trans H; with_reducible exact H2_) | with_reducible exact H | (rw [hy230]; exact H) | exact H
    have Ny230 := Aside0.mk hy230
    clear hy230
    by_cases c13 : x7_1.length < 17592186044416
    rotate_left
    ·rw [if_neg c13] at H; exact absurd H (by simp)
    rw [if_pos c13] at H
    have LMc13 := Aside0.mk c13
    clear c13
    obtain ⟨y234, hy234⟩ : ∃ y_ : List Int, y_ = (x7_1 ++ [wrap64 (Int.tdiv (rd l1_1 x8_1) 100000)]) := ⟨_, rfl⟩
    replace H : (spec_l01Times.l0 k1 y230 y234 (wrap64 (x8_1 + 1)) a0_0 l0_1 a1_0 l1_1) = some (r1, r2, r3) := by first | (rw [hy234]; with_reducible exact H) | (have H2_ := (Option.bind_some _ _).symm.trans H; rw [hy234]; with_reducible exact H2_) | (have H2_ := (Option.bind_some _ _).symm.trans H; with_reducible exact H2_) | with_reducible exact H | (rw [hy234]; exact H) | exact H
    have Ny234 := Aside0.mk hy234
    clear hy234
    have H' := Aside0.mk H
    clear H
    have hnb14 := NB221_220.out
    have hnc14 := NB220_221.out
    have hnb15 := NB221_222.out
    have hnc15 := NB222_221.out
    have hcz16_0 : wr.cell? ⟨gb221, 0, none⟩ = some (.int .i64 a1_0) := (blk_cell BK221.out 0).trans rfl
    have hcz16_1 : wr.cell? ⟨gb221, 1, none⟩ = some (.slice A1_1 l1_1.length c1_1) := (blk_cell BK221.out 1).trans rfl
    have hfz16_0 := blk_frozen BK221.out 0
    have hfz16_1 := blk_frozen BK221.out 1
    have p229 : 0 ≤ (x8_1 : Int) := of_decide_eq_true (by first | (with_reducible assumption) | assumption)
    have q229 : x8_1 < (l1_1.length : Int) := of_decide_eq_true (by first | (with_reducible assumption) | assumption)
    obtain ⟨ad229, e229, hx229_0⟩ := Kd.at_int HR1_1.out x8_1 p229 q229
    cases e229
    replace hx229_0 := (HB.out.cell (World.block_lt_of_cell? w _ hx229_0)).trans hx229_0
    replace p229 := eq_true p229
    replace q229 := eq_true q229
    go_wp2_with (first | ((with_reducible refine gate_builtin (b := .append) (xs := #[.tmp 22, .tmp 29]) rfl ?_); at_builtin; refine Kd.R_append (Kd.int .i64) (w0 := w) w.heap.size rfl (.tmp 22) (.tmp 29) 22 2 (.int .i64 0) 8 rfl Try.underlying22 info2 rfl (by decide) (by omega) u6 x6_1 (Int.tmod (rd l1_1 x8_1) 100000) [.int .i64 (Int.tmod (rd l1_1 x8_1) 100000)] (fun k_ => some k_ ≠ (u7 : Value).ownBlock) (fun _ => False) rfl rfl ?aP (fun _ hk => hk.elim) ?aF ?aO ?aB ?aS ?aL ?_; (case aP => exact rfl); (case aB => exact (bks HB.out)); (case aF => exact (fun k_ hk => Kd.fresh' (Kd.R_lt (rk HO_7.out)) k_ hk)); (case aO => exact (rk HO_6.out)); (case aS => exact (below_size (bks HB.out))); (case aL => have := LMc12.out; omega); intro v231 w17 ho hb hg hat; rw [← Ny230.out] at ho; have HO232 := Aside0.mk ho; replace HO_7 := Aside0.mk (Kd.R_after (ok := (fun _ => True)) (rk (Kd.R_mono HO_7.out (fun _ hk => ⟨trivial, hk⟩))) hg hat); replace BK220 := Aside0.mk (blk_grown (pk BK220.out) hg (Kd.R_ne HO_6.out BK220.out (by decide))); replace BK221 := Aside0.mk (blk_grown (pk BK221.out) hg (Kd.R_ne HO_6.out BK221.out (by decide))); replace BK222 := Aside0.mk (blk_grown (pk BK222.out) hg (Kd.R_ne HO_6.out BK222.out (by decide))); replace HB := Aside0.mk hb; clear HO_6 ho hb hg hat; have hcz18_0 : w17.cell? ⟨gb221, 0, none⟩ = some (.int .i64 a1_0) := (blk_cell BK221.out 0).trans rfl; have hcz18_1 : w17.cell? ⟨gb221, 1, none⟩ = some (.slice (some ad229) l1_1.length c1_1) := (blk_cell BK221.out 1).trans rfl; have hfz18_0 := blk_frozen BK221.out 0; have hfz18_1 := blk_frozen BK221.out 1; have p233 : 0 ≤ (x8_1 : Int) := of_decide_eq_true (by first | (with_reducible assumption) | assumption); have q233 : x8_1 < (l1_1.length : Int) := of_decide_eq_true (by first | (with_reducible assumption) | assumption); obtain ⟨ad233, e233, hx233_0⟩ := Kd.at_int HR1_1.out x8_1 p233 q233; obtain rfl : ad229 = ad233 := (by injection e233); replace hx233_0 := (HB.out.cell (World.block_lt_of_cell? w _ hx233_0)).trans hx233_0; replace p233 := eq_true p233; replace q233 := eq_true q233) | ((with_reducible refine gate_builtin (b := .append) (xs := #[.tmp 31, .tmp 38]) rfl ?_); at_builtin; refine Kd.R_append (Kd.int .i64) (w0 := w) w.heap.size rfl (.tmp 31) (.tmp 38) 22 2 (.int .i64 0) 8 rfl Try.underlying22 info2 rfl (by decide) (by omega) u7 x7_1 (wrap64 (Int.tdiv (rd l1_1 x8_1) 100000)) [.int .i64 (wrap64 (Int.tdiv (rd l1_1 x8_1) 100000))] (fun k_ => some k_ ≠ (v231 : Value).ownBlock) (fun _ => False) rfl rfl ?aP (fun _ hk => hk.elim) ?aF ?aO ?aB ?aS ?aL ?_; (case aP => exact rfl); (case aB => exact (bks HB.out)); (case aF => exact (fun k_ hk => Kd.fresh' (Kd.R_lt (rk HO232.out)) k_ hk)); (case aO => exact (rk (Kd.R_mono HO_7.out (fun _ hk => hk.2)))); (case aS => exact (below_size (bks HB.out))); (case aL => have := LMc13.out; omega); intro v235 w19 ho hb hg hat; rw [← Ny234.out] at ho; have HO236 := Aside0.mk ho; replace BK220 := Aside0.mk (blk_grown (pk BK220.out) hg (Kd.R_ne HO_7.out BK220.out (by decide))); replace BK221 := Aside0.mk (blk_grown (pk BK221.out) hg (Kd.R_ne HO_7.out BK221.out (by decide))); replace BK222 := Aside0.mk (blk_grown (pk BK222.out) hg (Kd.R_ne HO_7.out BK222.out (by decide))); replace HO232 := Aside0.mk (Kd.R_after (ok := (fun _ => True)) (rk (Kd.R_mono HO232.out (fun _ hk => ⟨trivial, hk⟩))) hg hat); replace HB := Aside0.mk hb; clear HO_7 ho hb hg hat))
    go_roundg k1
    case measure => have := HK1.out; omega
    case rel => exact ⟨(y230), (y234), (wrap64 (x8_1 + 1)), (by first | rfl | (simp; done) | (simp [*]; done)), H', ⟨by have := HK1.out; omega⟩, ⟨rk (Kd.R_mono HO232.out (fun _ hk => hk.2))⟩, ⟨rk HO236.out⟩, ⟨pk BK220.out⟩, ⟨pk BK221.out⟩, ⟨pk BK222.out⟩, ⟨bks HB.out⟩⟩
   ·rw [if_neg c10] at H
    have c10b0 : decide (x8_1 < (l1_1.length : Int)) = false := decide_eq_false c10
    clear c10
    replace H := Option.bind_eq_some_iff.mp H
    obtain ⟨⟨t237, t238⟩, A200, H⟩ := H
    try dsimp only at H
    have A20 := Aside0.mk A200
    clear A200
    replace H := Option.bind_eq_some_iff.mp H
    obtain ⟨⟨t241, t242⟩, A210, H⟩ := H
    try dsimp only at H
    have A21 := Aside0.mk A210
    clear A210
    replace H := Option.bind_eq_some_iff.mp H
    obtain ⟨⟨t247, t248⟩, A220, H⟩ := H
    try dsimp only at H
    have A22 := Aside0.mk A220
    clear A220
    have H' := Aside0.mk H
    clear H
    have hnb23 := NB221_220.out
    have hnc23 := NB220_221.out
    have hnb24 := NB221_222.out
    have hnc24 := NB222_221.out
    have hcz25_0 : wr.cell? ⟨gb221, 0, none⟩ = some (.int .i64 a1_0) := (blk_cell BK221.out 0).trans rfl
    have hcz25_1 : wr.cell? ⟨gb221, 1, none⟩ = some (.slice A1_1 l1_1.length c1_1) := (blk_cell BK221.out 1).trans rfl
    have hfz25_0 := blk_frozen BK221.out 0
    have hfz25_1 := blk_frozen BK221.out 1
    obtain ⟨Ao26, co26, eo26⟩ := Kd.R_slice HO_6.out
    subst eo26
    obtain ⟨Ao27, co27, eo27⟩ := Kd.R_slice HO_7.out
    subst eo27
    try go_wp2
    replace HO_6 := rd0 HO_6
    replace HO_7 := rd0 HO_7
    replace BK220 := bd BK220
    replace BK221 := bd BK221
    replace BK222 := bd BK222
    replace HB := hd0 HB
    refine start_ (n := 10) (S := fun w' => w'.cell? ⟨gb220, 0, none⟩ = some (.int .i64 a0_0) ∧ w'.cell? ⟨gb220, 1, none⟩ = some (.slice A0_1 l0_1.length c0_1)) (ds := []) #[false, false, false, false, false, false, false, false, false, false] (by kernel_rfl) rfl rfl ⟨(blk_cell BK220.out 0).trans rfl, (blk_cell BK220.out 1).trans rfl⟩ (fun hHeld => ?_); refine with_tabW spec_l01Times.tab7 spec_l01Times.bits7 (fun HT_ HW_ => ?_)
    generalize wr.drew = w28 at HO_6 HO_7 BK220 BK221 BK222 HB hHeld ⊢
    refine pu 1 (some 41) HT_ ?_
    refine pu 4 (some 44) HT_ ?_
    refine tk 0 (some 40) HT_ HW_ hHeld ?_ (hy := by rintro w' ⟨s0, s1⟩; go_simp; with_reducible rfl)
    refine tk 3 (some 43) HT_ HW_ hHeld ?_ (hy := by rintro w' ⟨s0, s1⟩; go_simp; with_reducible rfl)
    refine join_ (σ := Value × Value × Nat × Nat) 2 #[true, true, true, true, true, true, true, true, false, false] (fun s_ => [(42, .agg #[.int .i64 t237, s_.1]), (45, .agg #[.int .i64 t241, s_.2.1]), (9, .pointer (some ⟨s_.2.2.1, 0, none⟩)), (10, .pointer (some ⟨s_.2.2.2, 0, none⟩))]) (fun s_ w' => (w'.cell? ⟨gb220, 0, none⟩ = some (.int .i64 a0_0) ∧ w'.cell? ⟨gb220, 1, none⟩ = some (.slice A0_1 l0_1.length c0_1)) ∧ (Kd.R (Kd.int .i64) 2 w' w.heap.size (fun k_ => some k_ ≠ (s_.2.1 : Value).ownBlock ∧ some k_ ≠ (.slice Ao26 x6_1.length co26 : Value).ownBlock ∧ some k_ ≠ (.slice Ao27 x7_1.length co27 : Value).ownBlock) s_.1 t238) ∧ (Kd.R (Kd.int .i64) 2 w' w.heap.size (fun k_ => some k_ ≠ (s_.1 : Value).ownBlock ∧ some k_ ≠ (.slice Ao26 x6_1.length co26 : Value).ownBlock ∧ some k_ ≠ (.slice Ao27 x7_1.length co27 : Value).ownBlock) s_.2.1 t242) ∧ (Kd.R (Kd.int .i64) 2 w' w.heap.size (fun k_ => some k_ ≠ (s_.1 : Value).ownBlock ∧ some k_ ≠ (s_.2.1 : Value).ownBlock ∧ some k_ ≠ (.slice Ao27 x7_1.length co27 : Value).ownBlock) (.slice Ao26 x6_1.length co26) x6_1) ∧ (Kd.R (Kd.int .i64) 2 w' w.heap.size (fun k_ => some k_ ≠ (s_.1 : Value).ownBlock ∧ some k_ ≠ (s_.2.1 : Value).ownBlock ∧ some k_ ≠ (.slice Ao26 x6_1.length co26 : Value).ownBlock) (.slice Ao27 x7_1.length co27) x7_1) ∧ (w'.heap[gb220]? = some (.cells #[.int .i64 a0_0, .slice A0_1 l0_1.length c0_1] 29 (0, 0))) ∧ (w'.heap[gb221]? = some (.cells #[.int .i64 a1_0, .slice A1_1 l1_1.length c1_1] 29 (0, 0))) ∧ (w'.heap[gb222]? = some (.cells #[.int .i64 0, .slice none 0 0] 29 (0, 0))) ∧ (w'.heap[s_.2.2.1]? = some (.cells #[.int .i64 0, .slice none 0 0] 29 (0, 0))) ∧ (w'.heap[s_.2.2.2]? = some (.cells #[.int .i64 0, .slice none 0 0] 29 (0, 0))) ∧ (w.heap.size ≤ s_.2.2.1) ∧ (w.heap.size ≤ s_.2.2.1) ∧ (gb220 ≠ s_.2.2.1) ∧ (s_.2.2.1 ≠ gb220) ∧ (gb221 ≠ s_.2.2.1) ∧ (s_.2.2.1 ≠ gb221) ∧ (gb222 ≠ s_.2.2.1) ∧ (s_.2.2.1 ≠ gb222) ∧ (s_.2.2.2 ≠ s_.2.2.1) ∧ (s_.2.2.1 ≠ s_.2.2.2) ∧ (w.heap.size ≤ s_.2.2.2) ∧ (w.heap.size ≤ s_.2.2.2) ∧ (gb220 ≠ s_.2.2.2) ∧ (s_.2.2.2 ≠ gb220) ∧ (gb221 ≠ s_.2.2.2) ∧ (s_.2.2.2 ≠ gb221) ∧ (gb222 ≠ s_.2.2.2) ∧ (s_.2.2.2 ≠ gb222) ∧ (Below w.heap.size w w')) ?_ ?_
    rotate_left
    ·intro hJ2_5_6_7
     refine join_ (σ := Value × Value × Nat) 3 #[true, true, true, true, true, true, true, false, false, false] (fun s_ => [(42, .agg #[.int .i64 t237, s_.1]), (45, .agg #[.int .i64 t241, s_.2.1]), (9, .pointer (some ⟨s_.2.2, 0, none⟩))]) (fun s_ w' => (w'.cell? ⟨gb220, 0, none⟩ = some (.int .i64 a0_0) ∧ w'.cell? ⟨gb220, 1, none⟩ = some (.slice A0_1 l0_1.length c0_1)) ∧ (Kd.R (Kd.int .i64) 2 w' w.heap.size (fun k_ => some k_ ≠ (s_.2.1 : Value).ownBlock ∧ some k_ ≠ (.slice Ao26 x6_1.length co26 : Value).ownBlock ∧ some k_ ≠ (.slice Ao27 x7_1.length co27 : Value).ownBlock) s_.1 t238) ∧ (Kd.R (Kd.int .i64) 2 w' w.heap.size (fun k_ => some k_ ≠ (s_.1 : Value).ownBlock ∧ some k_ ≠ (.slice Ao26 x6_1.length co26 : Value).ownBlock ∧ some k_ ≠ (.slice Ao27 x7_1.length co27 : Value).ownBlock) s_.2.1 t242) ∧ (Kd.R (Kd.int .i64) 2 w' w.heap.size (fun k_ => some k_ ≠ (s_.1 : Value).ownBlock ∧ some k_ ≠ (s_.2.1 : Value).ownBlock ∧ some k_ ≠ (.slice Ao27 x7_1.length co27 : Value).ownBlock) (.slice Ao26 x6_1.length co26) x6_1) ∧ (Kd.R (Kd.int .i64) 2 w' w.heap.size (fun k_ => some k_ ≠ (s_.1 : Value).ownBlock ∧ some k_ ≠ (s_.2.1 : Value).ownBlock ∧ some k_ ≠ (.slice Ao26 x6_1.length co26 : Value).ownBlock) (.slice Ao27 x7_1.length co27) x7_1) ∧ (w'.heap[gb220]? = some (.cells #[.int .i64 a0_0, .slice A0_1 l0_1.length c0_1] 29 (0, 0))) ∧ (w'.heap[gb221]? = some (.cells #[.int .i64 a1_0, .slice A1_1 l1_1.length c1_1] 29 (0, 0))) ∧ (w'.heap[gb222]? = some (.cells #[.int .i64 0, .slice none 0 0] 29 (0, 0))) ∧ (w'.heap[s_.2.2]? = some (.cells #[.int .i64 0, .slice none 0 0] 29 (0, 0))) ∧ (w.heap.size ≤ s_.2.2) ∧ (w.heap.size ≤ s_.2.2) ∧ (gb220 ≠ s_.2.2) ∧ (s_.2.2 ≠ gb220) ∧ (gb221 ≠ s_.2.2) ∧ (s_.2.2 ≠ gb221) ∧ (gb222 ≠ s_.2.2) ∧ (s_.2.2 ≠ gb222) ∧ (Below w.heap.size w w')) ?_ ?_
     rotate_left
     ·intro hJ2_5_6
      refine join_ (σ := Value × Value × Nat) 3 #[true, true, true, true, true, true, false, true, false, false] (fun s_ => [(42, .agg #[.int .i64 t237, s_.1]), (45, .agg #[.int .i64 t241, s_.2.1]), (10, .pointer (some ⟨s_.2.2, 0, none⟩))]) (fun s_ w' => (w'.cell? ⟨gb220, 0, none⟩ = some (.int .i64 a0_0) ∧ w'.cell? ⟨gb220, 1, none⟩ = some (.slice A0_1 l0_1.length c0_1)) ∧ (Kd.R (Kd.int .i64) 2 w' w.heap.size (fun k_ => some k_ ≠ (s_.2.1 : Value).ownBlock ∧ some k_ ≠ (.slice Ao26 x6_1.length co26 : Value).ownBlock ∧ some k_ ≠ (.slice Ao27 x7_1.length co27 : Value).ownBlock) s_.1 t238) ∧ (Kd.R (Kd.int .i64) 2 w' w.heap.size (fun k_ => some k_ ≠ (s_.1 : Value).ownBlock ∧ some k_ ≠ (.slice Ao26 x6_1.length co26 : Value).ownBlock ∧ some k_ ≠ (.slice Ao27 x7_1.length co27 : Value).ownBlock) s_.2.1 t242) ∧ (Kd.R (Kd.int .i64) 2 w' w.heap.size (fun k_ => some k_ ≠ (s_.1 : Value).ownBlock ∧ some k_ ≠ (s_.2.1 : Value).ownBlock ∧ some k_ ≠ (.slice Ao27 x7_1.length co27 : Value).ownBlock) (.slice Ao26 x6_1.length co26) x6_1) ∧ (Kd.R (Kd.int .i64) 2 w' w.heap.size (fun k_ => some k_ ≠ (s_.1 : Value).ownBlock ∧ some k_ ≠ (s_.2.1 : Value).ownBlock ∧ some k_ ≠ (.slice Ao26 x6_1.length co26 : Value).ownBlock) (.slice Ao27 x7_1.length co27) x7_1) ∧ (w'.heap[gb220]? = some (.cells #[.int .i64 a0_0, .slice A0_1 l0_1.length c0_1] 29 (0, 0))) ∧ (w'.heap[gb221]? = some (.cells #[.int .i64 a1_0, .slice A1_1 l1_1.length c1_1] 29 (0, 0))) ∧ (w'.heap[gb222]? = some (.cells #[.int .i64 0, .slice none 0 0] 29 (0, 0))) ∧ (w'.heap[s_.2.2]? = some (.cells #[.int .i64 0, .slice none 0 0] 29 (0, 0))) ∧ (w.heap.size ≤ s_.2.2) ∧ (w.heap.size ≤ s_.2.2) ∧ (gb220 ≠ s_.2.2) ∧ (s_.2.2 ≠ gb220) ∧ (gb221 ≠ s_.2.2) ∧ (s_.2.2 ≠ gb221) ∧ (gb222 ≠ s_.2.2) ∧ (s_.2.2 ≠ gb222) ∧ (Below w.heap.size w w')) ?_ ?_
      rotate_left
      ·intro hJ2_5_7
       refine join_ (σ := Value × Nat × Nat) 3 #[true, true, true, true, true, false, true, true, false, false] (fun s_ => [(42, .agg #[.int .i64 t237, s_.1]), (9, .pointer (some ⟨s_.2.1, 0, none⟩)), (10, .pointer (some ⟨s_.2.2, 0, none⟩))]) (fun s_ w' => (w'.cell? ⟨gb220, 0, none⟩ = some (.int .i64 a0_0) ∧ w'.cell? ⟨gb220, 1, none⟩ = some (.slice A0_1 l0_1.length c0_1)) ∧ (Kd.R (Kd.int .i64) 2 w' w.heap.size (fun k_ => some k_ ≠ (.slice Ao26 x6_1.length co26 : Value).ownBlock ∧ some k_ ≠ (.slice Ao27 x7_1.length co27 : Value).ownBlock) s_.1 t238) ∧ (Kd.R (Kd.int .i64) 2 w' w.heap.size (fun k_ => some k_ ≠ (s_.1 : Value).ownBlock ∧ some k_ ≠ (.slice Ao27 x7_1.length co27 : Value).ownBlock) (.slice Ao26 x6_1.length co26) x6_1) ∧ (Kd.R (Kd.int .i64) 2 w' w.heap.size (fun k_ => some k_ ≠ (s_.1 : Value).ownBlock ∧ some k_ ≠ (.slice Ao26 x6_1.length co26 : Value).ownBlock) (.slice Ao27 x7_1.length co27) x7_1) ∧ (w'.heap[gb220]? = some (.cells #[.int .i64 a0_0, .slice A0_1 l0_1.length c0_1] 29 (0, 0))) ∧ (w'.heap[gb221]? = some (.cells #[.int .i64 a1_0, .slice A1_1 l1_1.length c1_1] 29 (0, 0))) ∧ (w'.heap[gb222]? = some (.cells #[.int .i64 0, .slice none 0 0] 29 (0, 0))) ∧ (w'.heap[s_.2.1]? = some (.cells #[.int .i64 0, .slice none 0 0] 29 (0, 0))) ∧ (w'.heap[s_.2.2]? = some (.cells #[.int .i64 0, .slice none 0 0] 29 (0, 0))) ∧ (w.heap.size ≤ s_.2.1) ∧ (w.heap.size ≤ s_.2.1) ∧ (gb220 ≠ s_.2.1) ∧ (s_.2.1 ≠ gb220) ∧ (gb221 ≠ s_.2.1) ∧ (s_.2.1 ≠ gb221) ∧ (gb222 ≠ s_.2.1) ∧ (s_.2.1 ≠ gb222) ∧ (s_.2.2 ≠ s_.2.1) ∧ (s_.2.1 ≠ s_.2.2) ∧ (w.heap.size ≤ s_.2.2) ∧ (w.heap.size ≤ s_.2.2) ∧ (gb220 ≠ s_.2.2) ∧ (s_.2.2 ≠ gb220) ∧ (gb221 ≠ s_.2.2) ∧ (s_.2.2 ≠ gb221) ∧ (gb222 ≠ s_.2.2) ∧ (s_.2.2 ≠ gb222) ∧ (Below w.heap.size w w')) ?_ ?_
       rotate_left
       ·intro hJ2_6_7
        refine join_ (σ := Value × Value) 4 #[true, true, true, true, true, true, false, false, false, false] (fun s_ => [(42, .agg #[.int .i64 t237, s_.1]), (45, .agg #[.int .i64 t241, s_.2])]) (fun s_ w' => (w'.cell? ⟨gb220, 0, none⟩ = some (.int .i64 a0_0) ∧ w'.cell? ⟨gb220, 1, none⟩ = some (.slice A0_1 l0_1.length c0_1)) ∧ (Kd.R (Kd.int .i64) 2 w' w.heap.size (fun k_ => some k_ ≠ (s_.2 : Value).ownBlock ∧ some k_ ≠ (.slice Ao26 x6_1.length co26 : Value).ownBlock ∧ some k_ ≠ (.slice Ao27 x7_1.length co27 : Value).ownBlock) s_.1 t238) ∧ (Kd.R (Kd.int .i64) 2 w' w.heap.size (fun k_ => some k_ ≠ (s_.1 : Value).ownBlock ∧ some k_ ≠ (.slice Ao26 x6_1.length co26 : Value).ownBlock ∧ some k_ ≠ (.slice Ao27 x7_1.length co27 : Value).ownBlock) s_.2 t242) ∧ (Kd.R (Kd.int .i64) 2 w' w.heap.size (fun k_ => some k_ ≠ (s_.1 : Value).ownBlock ∧ some k_ ≠ (s_.2 : Value).ownBlock ∧ some k_ ≠ (.slice Ao27 x7_1.length co27 : Value).ownBlock) (.slice Ao26 x6_1.length co26) x6_1) ∧ (Kd.R (Kd.int .i64) 2 w' w.heap.size (fun k_ => some k_ ≠ (s_.1 : Value).ownBlock ∧ some k_ ≠ (s_.2 : Value).ownBlock ∧ some k_ ≠ (.slice Ao26 x6_1.length co26 : Value).ownBlock) (.slice Ao27 x7_1.length co27) x7_1) ∧ (w'.heap[gb220]? = some (.cells #[.int .i64 a0_0, .slice A0_1 l0_1.length c0_1] 29 (0, 0))) ∧ (w'.heap[gb221]? = some (.cells #[.int .i64 a1_0, .slice A1_1 l1_1.length c1_1] 29 (0, 0))) ∧ (w'.heap[gb222]? = some (.cells #[.int .i64 0, .slice none 0 0] 29 (0, 0))) ∧ (Below w.heap.size w w')) ?_ ?_
        rotate_left
        ·intro hJ2_5
         refine join_ (σ := Value × Nat) 4 #[true, true, true, true, true, false, true, false, false, false] (fun s_ => [(42, .agg #[.int .i64 t237, s_.1]), (9, .pointer (some ⟨s_.2, 0, none⟩))]) (fun s_ w' => (w'.cell? ⟨gb220, 0, none⟩ = some (.int .i64 a0_0) ∧ w'.cell? ⟨gb220, 1, none⟩ = some (.slice A0_1 l0_1.length c0_1)) ∧ (Kd.R (Kd.int .i64) 2 w' w.heap.size (fun k_ => some k_ ≠ (.slice Ao26 x6_1.length co26 : Value).ownBlock ∧ some k_ ≠ (.slice Ao27 x7_1.length co27 : Value).ownBlock) s_.1 t238) ∧ (Kd.R (Kd.int .i64) 2 w' w.heap.size (fun k_ => some k_ ≠ (s_.1 : Value).ownBlock ∧ some k_ ≠ (.slice Ao27 x7_1.length co27 : Value).ownBlock) (.slice Ao26 x6_1.length co26) x6_1) ∧ (Kd.R (Kd.int .i64) 2 w' w.heap.size (fun k_ => some k_ ≠ (s_.1 : Value).ownBlock ∧ some k_ ≠ (.slice Ao26 x6_1.length co26 : Value).ownBlock) (.slice Ao27 x7_1.length co27) x7_1) ∧ (w'.heap[gb220]? = some (.cells #[.int .i64 a0_0, .slice A0_1 l0_1.length c0_1] 29 (0, 0))) ∧ (w'.heap[gb221]? = some (.cells #[.int .i64 a1_0, .slice A1_1 l1_1.length c1_1] 29 (0, 0))) ∧ (w'.heap[gb222]? = some (.cells #[.int .i64 0, .slice none 0 0] 29 (0, 0))) ∧ (w'.heap[s_.2]? = some (.cells #[.int .i64 0, .slice none 0 0] 29 (0, 0))) ∧ (w.heap.size ≤ s_.2) ∧ (w.heap.size ≤ s_.2) ∧ (gb220 ≠ s_.2) ∧ (s_.2 ≠ gb220) ∧ (gb221 ≠ s_.2) ∧ (s_.2 ≠ gb221) ∧ (gb222 ≠ s_.2) ∧ (s_.2 ≠ gb222) ∧ (Below w.heap.size w w')) ?_ ?_
         rotate_left
         ·intro hJ2_6
          refine join_ (σ := Value × Nat) 4 #[true, true, true, true, true, false, false, true, false, false] (fun s_ => [(42, .agg #[.int .i64 t237, s_.1]), (10, .pointer (some ⟨s_.2, 0, none⟩))]) (fun s_ w' => (w'.cell? ⟨gb220, 0, none⟩ = some (.int .i64 a0_0) ∧ w'.cell? ⟨gb220, 1, none⟩ = some (.slice A0_1 l0_1.length c0_1)) ∧ (Kd.R (Kd.int .i64) 2 w' w.heap.size (fun k_ => some k_ ≠ (.slice Ao26 x6_1.length co26 : Value).ownBlock ∧ some k_ ≠ (.slice Ao27 x7_1.length co27 : Value).ownBlock) s_.1 t238) ∧ (Kd.R (Kd.int .i64) 2 w' w.heap.size (fun k_ => some k_ ≠ (s_.1 : Value).ownBlock ∧ some k_ ≠ (.slice Ao27 x7_1.length co27 : Value).ownBlock) (.slice Ao26 x6_1.length co26) x6_1) ∧ (Kd.R (Kd.int .i64) 2 w' w.heap.size (fun k_ => some k_ ≠ (s_.1 : Value).ownBlock ∧ some k_ ≠ (.slice Ao26 x6_1.length co26 : Value).ownBlock) (.slice Ao27 x7_1.length co27) x7_1) ∧ (w'.heap[gb220]? = some (.cells #[.int .i64 a0_0, .slice A0_1 l0_1.length c0_1] 29 (0, 0))) ∧ (w'.heap[gb221]? = some (.cells #[.int .i64 a1_0, .slice A1_1 l1_1.length c1_1] 29 (0, 0))) ∧ (w'.heap[gb222]? = some (.cells #[.int .i64 0, .slice none 0 0] 29 (0, 0))) ∧ (w'.heap[s_.2]? = some (.cells #[.int .i64 0, .slice none 0 0] 29 (0, 0))) ∧ (w.heap.size ≤ s_.2) ∧ (w.heap.size ≤ s_.2) ∧ (gb220 ≠ s_.2) ∧ (s_.2 ≠ gb220) ∧ (gb221 ≠ s_.2) ∧ (s_.2 ≠ gb221) ∧ (gb222 ≠ s_.2) ∧ (s_.2 ≠ gb222) ∧ (Below w.heap.size w w')) ?_ ?_
          rotate_left
          ·intro hJ2_7
           refine join_ (σ := Nat × Nat) 4 #[true, true, false, true, true, false, true, true, false, false] (fun s_ => [(9, .pointer (some ⟨s_.1, 0, none⟩)), (10, .pointer (some ⟨s_.2, 0, none⟩))]) (fun s_ w' => (w'.cell? ⟨gb220, 0, none⟩ = some (.int .i64 a0_0) ∧ w'.cell? ⟨gb220, 1, none⟩ = some (.slice A0_1 l0_1.length c0_1)) ∧ (Kd.R (Kd.int .i64) 2 w' w.heap.size (fun k_ => some k_ ≠ (.slice Ao27 x7_1.length co27 : Value).ownBlock) (.slice Ao26 x6_1.length co26) x6_1) ∧ (Kd.R (Kd.int .i64) 2 w' w.heap.size (fun k_ => some k_ ≠ (.slice Ao26 x6_1.length co26 : Value).ownBlock) (.slice Ao27 x7_1.length co27) x7_1) ∧ (w'.heap[gb220]? = some (.cells #[.int .i64 a0_0, .slice A0_1 l0_1.length c0_1] 29 (0, 0))) ∧ (w'.heap[gb221]? = some (.cells #[.int .i64 a1_0, .slice A1_1 l1_1.length c1_1] 29 (0, 0))) ∧ (w'.heap[gb222]? = some (.cells #[.int .i64 0, .slice none 0 0] 29 (0, 0))) ∧ (w'.heap[s_.1]? = some (.cells #[.int .i64 0, .slice none 0 0] 29 (0, 0))) ∧ (w'.heap[s_.2]? = some (.cells #[.int .i64 0, .slice none 0 0] 29 (0, 0))) ∧ (w.heap.size ≤ s_.1) ∧ (w.heap.size ≤ s_.1) ∧ (gb220 ≠ s_.1) ∧ (s_.1 ≠ gb220) ∧ (gb221 ≠ s_.1) ∧ (s_.1 ≠ gb221) ∧ (gb222 ≠ s_.1) ∧ (s_.1 ≠ gb222) ∧ (s_.2 ≠ s_.1) ∧ (s_.1 ≠ s_.2) ∧ (w.heap.size ≤ s_.2) ∧ (w.heap.size ≤ s_.2) ∧ (gb220 ≠ s_.2) ∧ (s_.2 ≠ gb220) ∧ (gb221 ≠ s_.2) ∧ (s_.2 ≠ gb221) ∧ (gb222 ≠ s_.2) ∧ (s_.2 ≠ gb222) ∧ (Below w.heap.size w w')) ?_ ?_
           rotate_left
           ·intro hJ6_7
            refine join_ (σ := Value) 5 #[true, true, true, true, true, false, false, false, false, false] (fun s_ => [(42, .agg #[.int .i64 t237, s_])]) (fun s_ w' => (w'.cell? ⟨gb220, 0, none⟩ = some (.int .i64 a0_0) ∧ w'.cell? ⟨gb220, 1, none⟩ = some (.slice A0_1 l0_1.length c0_1)) ∧ (Kd.R (Kd.int .i64) 2 w' w.heap.size (fun k_ => some k_ ≠ (.slice Ao26 x6_1.length co26 : Value).ownBlock ∧ some k_ ≠ (.slice Ao27 x7_1.length co27 : Value).ownBlock) s_ t238) ∧ (Kd.R (Kd.int .i64) 2 w' w.heap.size (fun k_ => some k_ ≠ (s_ : Value).ownBlock ∧ some k_ ≠ (.slice Ao27 x7_1.length co27 : Value).ownBlock) (.slice Ao26 x6_1.length co26) x6_1) ∧ (Kd.R (Kd.int .i64) 2 w' w.heap.size (fun k_ => some k_ ≠ (s_ : Value).ownBlock ∧ some k_ ≠ (.slice Ao26 x6_1.length co26 : Value).ownBlock) (.slice Ao27 x7_1.length co27) x7_1) ∧ (w'.heap[gb220]? = some (.cells #[.int .i64 a0_0, .slice A0_1 l0_1.length c0_1] 29 (0, 0))) ∧ (w'.heap[gb221]? = some (.cells #[.int .i64 a1_0, .slice A1_1 l1_1.length c1_1] 29 (0, 0))) ∧ (w'.heap[gb222]? = some (.cells #[.int .i64 0, .slice none 0 0] 29 (0, 0))) ∧ (Below w.heap.size w w')) ?_ ?_
            rotate_left
            ·intro hJ2
             refine join_ (σ := Nat) 5 #[true, true, false, true, true, false, true, false, false, false] (fun s_ => [(9, .pointer (some ⟨s_, 0, none⟩))]) (fun s_ w' => (w'.cell? ⟨gb220, 0, none⟩ = some (.int .i64 a0_0) ∧ w'.cell? ⟨gb220, 1, none⟩ = some (.slice A0_1 l0_1.length c0_1)) ∧ (Kd.R (Kd.int .i64) 2 w' w.heap.size (fun k_ => some k_ ≠ (.slice Ao27 x7_1.length co27 : Value).ownBlock) (.slice Ao26 x6_1.length co26) x6_1) ∧ (Kd.R (Kd.int .i64) 2 w' w.heap.size (fun k_ => some k_ ≠ (.slice Ao26 x6_1.length co26 : Value).ownBlock) (.slice Ao27 x7_1.length co27) x7_1) ∧ (w'.heap[gb220]? = some (.cells #[.int .i64 a0_0, .slice A0_1 l0_1.length c0_1] 29 (0, 0))) ∧ (w'.heap[gb221]? = some (.cells #[.int .i64 a1_0, .slice A1_1 l1_1.length c1_1] 29 (0, 0))) ∧ (w'.heap[gb222]? = some (.cells #[.int .i64 0, .slice none 0 0] 29 (0, 0))) ∧ (w'.heap[s_]? = some (.cells #[.int .i64 0, .slice none 0 0] 29 (0, 0))) ∧ (w.heap.size ≤ s_) ∧ (w.heap.size ≤ s_) ∧ (gb220 ≠ s_) ∧ (s_ ≠ gb220) ∧ (gb221 ≠ s_) ∧ (s_ ≠ gb221) ∧ (gb222 ≠ s_) ∧ (s_ ≠ gb222) ∧ (Below w.heap.size w w')) ?_ ?_
             rotate_left
             ·intro hJ6
              refine join_ (σ := Nat) 5 #[true, true, false, true, true, false, false, true, false, false] (fun s_ => [(10, .pointer (some ⟨s_, 0, none⟩))]) (fun s_ w' => (w'.cell? ⟨gb220, 0, none⟩ = some (.int .i64 a0_0) ∧ w'.cell? ⟨gb220, 1, none⟩ = some (.slice A0_1 l0_1.length c0_1)) ∧ (Kd.R (Kd.int .i64) 2 w' w.heap.size (fun k_ => some k_ ≠ (.slice Ao27 x7_1.length co27 : Value).ownBlock) (.slice Ao26 x6_1.length co26) x6_1) ∧ (Kd.R (Kd.int .i64) 2 w' w.heap.size (fun k_ => some k_ ≠ (.slice Ao26 x6_1.length co26 : Value).ownBlock) (.slice Ao27 x7_1.length co27) x7_1) ∧ (w'.heap[gb220]? = some (.cells #[.int .i64 a0_0, .slice A0_1 l0_1.length c0_1] 29 (0, 0))) ∧ (w'.heap[gb221]? = some (.cells #[.int .i64 a1_0, .slice A1_1 l1_1.length c1_1] 29 (0, 0))) ∧ (w'.heap[gb222]? = some (.cells #[.int .i64 0, .slice none 0 0] 29 (0, 0))) ∧ (w'.heap[s_]? = some (.cells #[.int .i64 0, .slice none 0 0] 29 (0, 0))) ∧ (w.heap.size ≤ s_) ∧ (w.heap.size ≤ s_) ∧ (gb220 ≠ s_) ∧ (s_ ≠ gb220) ∧ (gb221 ≠ s_) ∧ (s_ ≠ gb221) ∧ (gb222 ≠ s_) ∧ (s_ ≠ gb222) ∧ (Below w.heap.size w w')) ?_ ?_
              rotate_left
              ·intro hJ7
               refine three_ (i := 2) (j := 6) (k := 7) (Ni := some 42) (Nj := some 9) (Nk := some 10) #[true, true, true, true, true, false, false, false, false, false] #[true, true, false, true, true, false, true, false, false, false] #[true, true, false, true, true, false, false, true, false, false] rfl rfl rfl rfl rfl rfl (three_of HT_.out (by kernel_rfl)) (by decide) (by decide) (by decide) (fun K hK => ?_) (fun K hK => ?_) (fun K hK => ?_)
               ·skip
                refine gs Try.func175 #[.agg #[.int .i64 a0_0, .slice A0_1 l0_1.length c0_1], .slice Ao26 x6_1.length co26] ?_
                with_reducible refine (spec_l01Product.calls k1 a0_0 _ _ l0_1 _ _ x6_1 t237 t238 _ ?side1 ?side2 ?side3 ?side4 A20.out).mono ?_
                (case side1 => repeat (first | exact (Kd.C_below HR0_1.out HB.out) | (with_reducible refine Kd.C_alloc ?_ _) | (with_reducible refine Kd.C_drewN ?_ _) | (with_reducible refine Kd.C_drew ?_)))
                (case side2 => exact HC0_1.out)
                (case side3 => repeat (first | exact (Kd.R_reads' HO_6.out).2.2 | (with_reducible refine Kd.C_alloc ?_ _) | (with_reducible refine Kd.C_drewN ?_ _) | (with_reducible refine Kd.C_drew ?_)))
                (case side4 => exact (Kd.R_reads' HO_6.out).2.1)
                rintro e w29 ⟨v239, rfl, ho0, hb⟩
                refine ⟨_, rfl, ?_⟩
                have HO240 := Aside0.mk (Kd.R_lower (Kd.R_new' (Kd.R_new' ho0 (Kd.R_lt (rk HO_6.out))) (Kd.R_lt (rk HO_7.out))) (below_size (bks HB.out)))
                replace HO_6 := re HO_6 ho0 hb
                replace HO_7 := re HO_7 ho0 hb
                replace BK220 := bb BK220 hb
                replace BK221 := bb BK221 hb
                replace BK222 := bb BK222 hb
                replace HB := hs HB hb
                (try clear hb ho0)
                refine hK.out _ _ ⟨(blk_cell BK220.out 0).trans rfl, (blk_cell BK220.out 1).trans rfl⟩ (fun hHeld => ?_)
                clear hK K
                refine nm ?_
                exact norm_ (by first | (simp only [putAll, Act.put, List.setIfInBounds_toArray, List.set_cons_zero, List.set_cons_succ]; done) | (simp only [putAll, Act.put, List.setIfInBounds_toArray, List.set_cons_zero, List.set_cons_succ]; rfl)) (hJ2 (v239) _ ⟨hHeld, (rk (Kd.R_mono HO240.out (fun _ hk => ⟨hk.1.2, hk.2⟩))), (rk (Kd.R_mono HO_6.out (fun _ hk => ⟨hk.2, hk.1⟩))), (rk (Kd.R_mono HO_7.out (fun _ hk => ⟨hk.2, hk.1⟩))), (pk BK220.out), (pk BK221.out), (pk BK222.out), (bks HB.out)⟩)
               ·skip
                refine bs 9 #[.int .i64 0, .slice none 0 0] 29 (fun gb245 hg w29 hbox hb => ?_)
                have BK245 := Aside0.mk hbox
                have GW245 := ge HB hg
                have GE245 := GW245
                obtain ⟨NB220_245, NB245_220⟩ := nb BK220 hg
                obtain ⟨NB221_245, NB245_221⟩ := nb BK221 hg
                obtain ⟨NB222_245, NB245_222⟩ := nb BK222 hg
                replace HO_6 := rb HO_6 hb
                replace HO_7 := rb HO_7 hb
                replace BK220 := bb BK220 hb
                replace BK221 := bb BK221 hb
                replace BK222 := bb BK222 hb
                replace HB := hs HB hb
                clear hb hbox hg
                refine hK.out _ _ ⟨(blk_cell BK220.out 0).trans rfl, (blk_cell BK220.out 1).trans rfl⟩ (fun hHeld => ?_)
                clear hK K
                refine nm ?_
                exact norm_ (by first | (simp only [putAll, Act.put, List.setIfInBounds_toArray, List.set_cons_zero, List.set_cons_succ]; done) | (simp only [putAll, Act.put, List.setIfInBounds_toArray, List.set_cons_zero, List.set_cons_succ]; rfl)) (hJ6 (gb245) _ ⟨hHeld, (rk HO_6.out), (rk HO_7.out), (pk BK220.out), (pk BK221.out), (pk BK222.out), (pk BK245.out), GW245.out, GE245.out, NB220_245.out, NB245_220.out, NB221_245.out, NB245_221.out, NB222_245.out, NB245_222.out, (bks HB.out)⟩)
               ·skip
                refine bs 10 #[.int .i64 0, .slice none 0 0] 29 (fun gb246 hg w29 hbox hb => ?_)
                have BK246 := Aside0.mk hbox
                have GW246 := ge HB hg
                have GE246 := GW246
                obtain ⟨NB220_246, NB246_220⟩ := nb BK220 hg
                obtain ⟨NB221_246, NB246_221⟩ := nb BK221 hg
                obtain ⟨NB222_246, NB246_222⟩ := nb BK222 hg
                replace HO_6 := rb HO_6 hb
                replace HO_7 := rb HO_7 hb
                replace BK220 := bb BK220 hb
                replace BK221 := bb BK221 hb
                replace BK222 := bb BK222 hb
                replace HB := hs HB hb
                clear hb hbox hg
                refine hK.out _ _ ⟨(blk_cell BK220.out 0).trans rfl, (blk_cell BK220.out 1).trans rfl⟩ (fun hHeld => ?_)
                clear hK K
                refine nm ?_
                exact norm_ (by first | (simp only [putAll, Act.put, List.setIfInBounds_toArray, List.set_cons_zero, List.set_cons_succ]; done) | (simp only [putAll, Act.put, List.setIfInBounds_toArray, List.set_cons_zero, List.set_cons_succ]; rfl)) (hJ7 (gb246) _ ⟨hHeld, (rk HO_6.out), (rk HO_7.out), (pk BK220.out), (pk BK221.out), (pk BK222.out), (pk BK246.out), GW246.out, GE246.out, NB220_246.out, NB246_220.out, NB221_246.out, NB246_221.out, NB222_246.out, NB246_222.out, (bks HB.out)⟩)
              ·skip
               rintro gb246 w30 ⟨hS_, h0_, h1_, h2_, h3_, h4_, h5_, h6_, h7_, h8_, h9_, h10_, h11_, h12_, h13_, h14_⟩
               try dsimp only at h0_ h1_ h2_ h3_ h4_ h5_ h6_ h7_ h8_ h9_ h10_ h11_ h12_ h13_ h14_
               have BK246 := Aside0.mk h5_
               have GW246 := Aside0.mk h6_
               have GE246 := Aside0.mk h7_
               have NB220_246 := Aside0.mk h8_
               have NB246_220 := Aside0.mk h9_
               have NB221_246 := Aside0.mk h10_
               have NB246_221 := Aside0.mk h11_
               have NB222_246 := Aside0.mk h12_
               have NB246_222 := Aside0.mk h13_
               replace HO_6 := Aside0.mk h0_
               replace HO_7 := Aside0.mk h1_
               replace BK220 := Aside0.mk h2_
               replace BK221 := Aside0.mk h3_
               replace BK222 := Aside0.mk h4_
               replace HB := Aside0.mk h14_
               clear h0_ h1_ h2_ h3_ h4_ h5_ h6_ h7_ h8_ h9_ h10_ h11_ h12_ h13_ h14_
               have hHeld : w30.cell? ⟨gb220, 0, none⟩ = some (.int .i64 a0_0) ∧ w30.cell? ⟨gb220, 1, none⟩ = some (.slice A0_1 l0_1.length c0_1) := hS_
               refine norm_ (a' := ?_) ?_ ?_
               rotate_left
               ·simp only [putAll, Act.put, List.setIfInBounds_toArray, List.set_cons_zero, List.set_cons_succ]
                rfl
               refine two_ (i := 2) (j := 6) (Ni := some 42) (Nj := some 9) #[true, true, true, true, true, false, false, true, false, false] #[true, true, false, true, true, false, true, true, false, false] rfl rfl rfl rfl (two_of HT_.out (by kernel_rfl)) (by decide) (by decide) (fun K hK => ?_) (fun K hK => ?_)
               ·skip
                refine gs Try.func175 #[.agg #[.int .i64 a0_0, .slice A0_1 l0_1.length c0_1], .slice Ao26 x6_1.length co26] ?_
                with_reducible refine (spec_l01Product.calls k1 a0_0 _ _ l0_1 _ _ x6_1 t237 t238 _ ?side1 ?side2 ?side3 ?side4 A20.out).mono ?_
                (case side1 => repeat (first | exact (Kd.C_below HR0_1.out HB.out) | (with_reducible refine Kd.C_alloc ?_ _) | (with_reducible refine Kd.C_drewN ?_ _) | (with_reducible refine Kd.C_drew ?_)))
                (case side2 => exact HC0_1.out)
                (case side3 => repeat (first | exact (Kd.R_reads' HO_6.out).2.2 | (with_reducible refine Kd.C_alloc ?_ _) | (with_reducible refine Kd.C_drewN ?_ _) | (with_reducible refine Kd.C_drew ?_)))
                (case side4 => exact (Kd.R_reads' HO_6.out).2.1)
                rintro e w31 ⟨v239, rfl, ho0, hb⟩
                refine ⟨_, rfl, ?_⟩
                have HO240 := Aside0.mk (Kd.R_lower (Kd.R_new' (Kd.R_new' ho0 (Kd.R_lt (rk HO_6.out))) (Kd.R_lt (rk HO_7.out))) (below_size (bks HB.out)))
                replace HO_6 := re HO_6 ho0 hb
                replace HO_7 := re HO_7 ho0 hb
                replace BK220 := bb BK220 hb
                replace BK221 := bb BK221 hb
                replace BK222 := bb BK222 hb
                replace BK246 := bb BK246 hb
                replace HB := hs HB hb
                (try clear hb ho0)
                refine hK.out _ _ ⟨(blk_cell BK220.out 0).trans rfl, (blk_cell BK220.out 1).trans rfl⟩ (fun hHeld => ?_)
                clear hK K
                refine nm ?_
                exact norm_ (by first | (simp only [putAll, Act.put, List.setIfInBounds_toArray, List.set_cons_zero, List.set_cons_succ]; done) | (simp only [putAll, Act.put, List.setIfInBounds_toArray, List.set_cons_zero, List.set_cons_succ]; rfl)) (hJ2_7 (v239, gb246) _ ⟨hHeld, (rk (Kd.R_mono HO240.out (fun _ hk => ⟨hk.1.2, hk.2⟩))), (rk (Kd.R_mono HO_6.out (fun _ hk => ⟨hk.2, hk.1⟩))), (rk (Kd.R_mono HO_7.out (fun _ hk => ⟨hk.2, hk.1⟩))), (pk BK220.out), (pk BK221.out), (pk BK222.out), (pk BK246.out), GW246.out, GE246.out, NB220_246.out, NB246_220.out, NB221_246.out, NB246_221.out, NB222_246.out, NB246_222.out, (bks HB.out)⟩)
               ·skip
                refine bs 9 #[.int .i64 0, .slice none 0 0] 29 (fun gb245 hg w31 hbox hb => ?_)
                have BK245 := Aside0.mk hbox
                have GW245 := ge HB hg
                have GE245 := GW245
                obtain ⟨NB220_245, NB245_220⟩ := nb BK220 hg
                obtain ⟨NB221_245, NB245_221⟩ := nb BK221 hg
                obtain ⟨NB222_245, NB245_222⟩ := nb BK222 hg
                obtain ⟨NB246_245, NB245_246⟩ := nb BK246 hg
                replace HO_6 := rb HO_6 hb
                replace HO_7 := rb HO_7 hb
                replace BK220 := bb BK220 hb
                replace BK221 := bb BK221 hb
                replace BK222 := bb BK222 hb
                replace BK246 := bb BK246 hb
                replace HB := hs HB hb
                clear hb hbox hg
                refine hK.out _ _ ⟨(blk_cell BK220.out 0).trans rfl, (blk_cell BK220.out 1).trans rfl⟩ (fun hHeld => ?_)
                clear hK K
                refine nm ?_
                exact norm_ (by first | (simp only [putAll, Act.put, List.setIfInBounds_toArray, List.set_cons_zero, List.set_cons_succ]; done) | (simp only [putAll, Act.put, List.setIfInBounds_toArray, List.set_cons_zero, List.set_cons_succ]; rfl)) (hJ6_7 (gb245, gb246) _ ⟨hHeld, (rk HO_6.out), (rk HO_7.out), (pk BK220.out), (pk BK221.out), (pk BK222.out), (pk BK245.out), (pk BK246.out), GW245.out, GE245.out, NB220_245.out, NB245_220.out, NB221_245.out, NB245_221.out, NB222_245.out, NB245_222.out, NB246_245.out, NB245_246.out, GW246.out, GE246.out, NB220_246.out, NB246_220.out, NB221_246.out, NB246_221.out, NB222_246.out, NB246_222.out, (bks HB.out)⟩)
             ·skip
              rintro gb245 w30 ⟨hS_, h0_, h1_, h2_, h3_, h4_, h5_, h6_, h7_, h8_, h9_, h10_, h11_, h12_, h13_, h14_⟩
              try dsimp only at h0_ h1_ h2_ h3_ h4_ h5_ h6_ h7_ h8_ h9_ h10_ h11_ h12_ h13_ h14_
              have BK245 := Aside0.mk h5_
              have GW245 := Aside0.mk h6_
              have GE245 := Aside0.mk h7_
              have NB220_245 := Aside0.mk h8_
              have NB245_220 := Aside0.mk h9_
              have NB221_245 := Aside0.mk h10_
              have NB245_221 := Aside0.mk h11_
              have NB222_245 := Aside0.mk h12_
              have NB245_222 := Aside0.mk h13_
              replace HO_6 := Aside0.mk h0_
              replace HO_7 := Aside0.mk h1_
              replace BK220 := Aside0.mk h2_
              replace BK221 := Aside0.mk h3_
              replace BK222 := Aside0.mk h4_
              replace HB := Aside0.mk h14_
              clear h0_ h1_ h2_ h3_ h4_ h5_ h6_ h7_ h8_ h9_ h10_ h11_ h12_ h13_ h14_
              have hHeld : w30.cell? ⟨gb220, 0, none⟩ = some (.int .i64 a0_0) ∧ w30.cell? ⟨gb220, 1, none⟩ = some (.slice A0_1 l0_1.length c0_1) := hS_
              refine norm_ (a' := ?_) ?_ ?_
              rotate_left
              ·simp only [putAll, Act.put, List.setIfInBounds_toArray, List.set_cons_zero, List.set_cons_succ]
               rfl
              refine two_ (i := 2) (j := 7) (Ni := some 42) (Nj := some 10) #[true, true, true, true, true, false, true, false, false, false] #[true, true, false, true, true, false, true, true, false, false] rfl rfl rfl rfl (two_of HT_.out (by kernel_rfl)) (by decide) (by decide) (fun K hK => ?_) (fun K hK => ?_)
              ·skip
               refine gs Try.func175 #[.agg #[.int .i64 a0_0, .slice A0_1 l0_1.length c0_1], .slice Ao26 x6_1.length co26] ?_
               with_reducible refine (spec_l01Product.calls k1 a0_0 _ _ l0_1 _ _ x6_1 t237 t238 _ ?side1 ?side2 ?side3 ?side4 A20.out).mono ?_
               (case side1 => repeat (first | exact (Kd.C_below HR0_1.out HB.out) | (with_reducible refine Kd.C_alloc ?_ _) | (with_reducible refine Kd.C_drewN ?_ _) | (with_reducible refine Kd.C_drew ?_)))
               (case side2 => exact HC0_1.out)
               (case side3 => repeat (first | exact (Kd.R_reads' HO_6.out).2.2 | (with_reducible refine Kd.C_alloc ?_ _) | (with_reducible refine Kd.C_drewN ?_ _) | (with_reducible refine Kd.C_drew ?_)))
               (case side4 => exact (Kd.R_reads' HO_6.out).2.1)
               rintro e w31 ⟨v239, rfl, ho0, hb⟩
               refine ⟨_, rfl, ?_⟩
               have HO240 := Aside0.mk (Kd.R_lower (Kd.R_new' (Kd.R_new' ho0 (Kd.R_lt (rk HO_6.out))) (Kd.R_lt (rk HO_7.out))) (below_size (bks HB.out)))
               replace HO_6 := re HO_6 ho0 hb
               replace HO_7 := re HO_7 ho0 hb
               replace BK220 := bb BK220 hb
               replace BK221 := bb BK221 hb
               replace BK222 := bb BK222 hb
               replace BK245 := bb BK245 hb
               replace HB := hs HB hb
               (try clear hb ho0)
               refine hK.out _ _ ⟨(blk_cell BK220.out 0).trans rfl, (blk_cell BK220.out 1).trans rfl⟩ (fun hHeld => ?_)
               clear hK K
               refine nm ?_
               exact norm_ (by first | (simp only [putAll, Act.put, List.setIfInBounds_toArray, List.set_cons_zero, List.set_cons_succ]; done) | (simp only [putAll, Act.put, List.setIfInBounds_toArray, List.set_cons_zero, List.set_cons_succ]; rfl)) (hJ2_6 (v239, gb245) _ ⟨hHeld, (rk (Kd.R_mono HO240.out (fun _ hk => ⟨hk.1.2, hk.2⟩))), (rk (Kd.R_mono HO_6.out (fun _ hk => ⟨hk.2, hk.1⟩))), (rk (Kd.R_mono HO_7.out (fun _ hk => ⟨hk.2, hk.1⟩))), (pk BK220.out), (pk BK221.out), (pk BK222.out), (pk BK245.out), GW245.out, GE245.out, NB220_245.out, NB245_220.out, NB221_245.out, NB245_221.out, NB222_245.out, NB245_222.out, (bks HB.out)⟩)
              ·skip
               refine bs 10 #[.int .i64 0, .slice none 0 0] 29 (fun gb246 hg w31 hbox hb => ?_)
               have BK246 := Aside0.mk hbox
               have GW246 := ge HB hg
               have GE246 := GW246
               obtain ⟨NB220_246, NB246_220⟩ := nb BK220 hg
               obtain ⟨NB221_246, NB246_221⟩ := nb BK221 hg
               obtain ⟨NB222_246, NB246_222⟩ := nb BK222 hg
               obtain ⟨NB245_246, NB246_245⟩ := nb BK245 hg
               replace HO_6 := rb HO_6 hb
               replace HO_7 := rb HO_7 hb
               replace BK220 := bb BK220 hb
               replace BK221 := bb BK221 hb
               replace BK222 := bb BK222 hb
               replace BK245 := bb BK245 hb
               replace HB := hs HB hb
               clear hb hbox hg
               refine hK.out _ _ ⟨(blk_cell BK220.out 0).trans rfl, (blk_cell BK220.out 1).trans rfl⟩ (fun hHeld => ?_)
               clear hK K
               refine nm ?_
               exact norm_ (by first | (simp only [putAll, Act.put, List.setIfInBounds_toArray, List.set_cons_zero, List.set_cons_succ]; done) | (simp only [putAll, Act.put, List.setIfInBounds_toArray, List.set_cons_zero, List.set_cons_succ]; rfl)) (hJ6_7 (gb245, gb246) _ ⟨hHeld, (rk HO_6.out), (rk HO_7.out), (pk BK220.out), (pk BK221.out), (pk BK222.out), (pk BK245.out), (pk BK246.out), GW245.out, GE245.out, NB220_245.out, NB245_220.out, NB221_245.out, NB245_221.out, NB222_245.out, NB245_222.out, NB246_245.out, NB245_246.out, GW246.out, GE246.out, NB220_246.out, NB246_220.out, NB221_246.out, NB246_221.out, NB222_246.out, NB246_222.out, (bks HB.out)⟩)
            ·skip
             rintro v239 w30 ⟨hS_, h0_, h1_, h2_, h3_, h4_, h5_, h6_⟩
             try dsimp only at h0_ h1_ h2_ h3_ h4_ h5_ h6_
             have HO240 := Aside0.mk h0_
             replace HO_6 := Aside0.mk h1_
             replace HO_7 := Aside0.mk h2_
             replace BK220 := Aside0.mk h3_
             replace BK221 := Aside0.mk h4_
             replace BK222 := Aside0.mk h5_
             replace HB := Aside0.mk h6_
             clear h0_ h1_ h2_ h3_ h4_ h5_ h6_
             have hHeld : w30.cell? ⟨gb220, 0, none⟩ = some (.int .i64 a0_0) ∧ w30.cell? ⟨gb220, 1, none⟩ = some (.slice A0_1 l0_1.length c0_1) := hS_
             refine norm_ (a' := ?_) ?_ ?_
             rotate_left
             ·simp only [putAll, Act.put, List.setIfInBounds_toArray, List.set_cons_zero, List.set_cons_succ]
              rfl
             refine three_ (i := 5) (j := 6) (k := 7) (Ni := some 45) (Nj := some 9) (Nk := some 10) #[true, true, true, true, true, true, false, false, false, false] #[true, true, true, true, true, false, true, false, false, false] #[true, true, true, true, true, false, false, true, false, false] rfl rfl rfl rfl rfl rfl (three_of HT_.out (by kernel_rfl)) (by decide) (by decide) (by decide) (fun K hK => ?_) (fun K hK => ?_) (fun K hK => ?_)
             ·skip
              refine gs Try.func175 #[.agg #[.int .i64 a0_0, .slice A0_1 l0_1.length c0_1], .slice Ao27 x7_1.length co27] ?_
              with_reducible refine (spec_l01Product.calls k1 a0_0 _ _ l0_1 _ _ x7_1 t241 t242 _ ?side1 ?side2 ?side3 ?side4 A21.out).mono ?_
              (case side1 => repeat (first | exact (Kd.C_below HR0_1.out HB.out) | (with_reducible refine Kd.C_alloc ?_ _) | (with_reducible refine Kd.C_drewN ?_ _) | (with_reducible refine Kd.C_drew ?_)))
              (case side2 => exact HC0_1.out)
              (case side3 => repeat (first | exact (Kd.R_reads' HO_7.out).2.2 | (with_reducible refine Kd.C_alloc ?_ _) | (with_reducible refine Kd.C_drewN ?_ _) | (with_reducible refine Kd.C_drew ?_)))
              (case side4 => exact (Kd.R_reads' HO_7.out).2.1)
              rintro e w31 ⟨v243, rfl, ho0, hb⟩
              refine ⟨_, rfl, ?_⟩
              have HO244 := Aside0.mk (Kd.R_lower (Kd.R_new' (Kd.R_new' (Kd.R_new' ho0 (Kd.R_lt (rk HO_6.out))) (Kd.R_lt (rk HO_7.out))) (Kd.R_lt (rk HO240.out))) (below_size (bks HB.out)))
              replace HO_6 := re HO_6 ho0 hb
              replace HO_7 := re HO_7 ho0 hb
              replace HO240 := re HO240 ho0 hb
              replace BK220 := bb BK220 hb
              replace BK221 := bb BK221 hb
              replace BK222 := bb BK222 hb
              replace HB := hs HB hb
              (try clear hb ho0)
              refine hK.out _ _ ⟨(blk_cell BK220.out 0).trans rfl, (blk_cell BK220.out 1).trans rfl⟩ (fun hHeld => ?_)
              clear hK K
              refine nm ?_
              exact norm_ (by first | (simp only [putAll, Act.put, List.setIfInBounds_toArray, List.set_cons_zero, List.set_cons_succ]; done) | (simp only [putAll, Act.put, List.setIfInBounds_toArray, List.set_cons_zero, List.set_cons_succ]; rfl)) (hJ2_5 (v239, v243) _ ⟨hHeld, (rk (Kd.R_mono HO240.out (fun _ hk => ⟨hk.2, ⟨hk.1.1, hk.1.2⟩⟩))), (rk (Kd.R_mono HO244.out (fun _ hk => ⟨hk.2, ⟨hk.1.1.2, hk.1.2⟩⟩))), (rk (Kd.R_mono HO_6.out (fun _ hk => ⟨hk.1.1, ⟨hk.2, hk.1.2⟩⟩))), (rk (Kd.R_mono HO_7.out (fun _ hk => ⟨hk.1.1, ⟨hk.2, hk.1.2⟩⟩))), (pk BK220.out), (pk BK221.out), (pk BK222.out), (bks HB.out)⟩)
             ·skip
              refine bs 9 #[.int .i64 0, .slice none 0 0] 29 (fun gb245 hg w31 hbox hb => ?_)
              have BK245 := Aside0.mk hbox
              have GW245 := ge HB hg
              have GE245 := GW245
              obtain ⟨NB220_245, NB245_220⟩ := nb BK220 hg
              obtain ⟨NB221_245, NB245_221⟩ := nb BK221 hg
              obtain ⟨NB222_245, NB245_222⟩ := nb BK222 hg
              replace HO_6 := rb HO_6 hb
              replace HO_7 := rb HO_7 hb
              replace HO240 := rb HO240 hb
              replace BK220 := bb BK220 hb
              replace BK221 := bb BK221 hb
              replace BK222 := bb BK222 hb
              replace HB := hs HB hb
              clear hb hbox hg
              refine hK.out _ _ ⟨(blk_cell BK220.out 0).trans rfl, (blk_cell BK220.out 1).trans rfl⟩ (fun hHeld => ?_)
              clear hK K
              refine nm ?_
              exact norm_ (by first | (simp only [putAll, Act.put, List.setIfInBounds_toArray, List.set_cons_zero, List.set_cons_succ]; done) | (simp only [putAll, Act.put, List.setIfInBounds_toArray, List.set_cons_zero, List.set_cons_succ]; rfl)) (hJ2_6 (v239, gb245) _ ⟨hHeld, (rk HO240.out), (rk HO_6.out), (rk HO_7.out), (pk BK220.out), (pk BK221.out), (pk BK222.out), (pk BK245.out), GW245.out, GE245.out, NB220_245.out, NB245_220.out, NB221_245.out, NB245_221.out, NB222_245.out, NB245_222.out, (bks HB.out)⟩)
             ·skip
              refine bs 10 #[.int .i64 0, .slice none 0 0] 29 (fun gb246 hg w31 hbox hb => ?_)
              have BK246 := Aside0.mk hbox
              have GW246 := ge HB hg
              have GE246 := GW246
              obtain ⟨NB220_246, NB246_220⟩ := nb BK220 hg
              obtain ⟨NB221_246, NB246_221⟩ := nb BK221 hg
              obtain ⟨NB222_246, NB246_222⟩ := nb BK222 hg
              replace HO_6 := rb HO_6 hb
              replace HO_7 := rb HO_7 hb
              replace HO240 := rb HO240 hb
              replace BK220 := bb BK220 hb
              replace BK221 := bb BK221 hb
              replace BK222 := bb BK222 hb
              replace HB := hs HB hb
              clear hb hbox hg
              refine hK.out _ _ ⟨(blk_cell BK220.out 0).trans rfl, (blk_cell BK220.out 1).trans rfl⟩ (fun hHeld => ?_)
              clear hK K
              refine nm ?_
              exact norm_ (by first | (simp only [putAll, Act.put, List.setIfInBounds_toArray, List.set_cons_zero, List.set_cons_succ]; done) | (simp only [putAll, Act.put, List.setIfInBounds_toArray, List.set_cons_zero, List.set_cons_succ]; rfl)) (hJ2_7 (v239, gb246) _ ⟨hHeld, (rk HO240.out), (rk HO_6.out), (rk HO_7.out), (pk BK220.out), (pk BK221.out), (pk BK222.out), (pk BK246.out), GW246.out, GE246.out, NB220_246.out, NB246_220.out, NB221_246.out, NB246_221.out, NB222_246.out, NB246_222.out, (bks HB.out)⟩)
           ·skip
            rintro ⟨gb245, gb246⟩ w31 ⟨hS_, h0_, h1_, h2_, h3_, h4_, h5_, h6_, h7_, h8_, h9_, h10_, h11_, h12_, h13_, h14_, h15_, h16_, h17_, h18_, h19_, h20_, h21_, h22_, h23_, h24_, h25_⟩
            try dsimp only at h0_ h1_ h2_ h3_ h4_ h5_ h6_ h7_ h8_ h9_ h10_ h11_ h12_ h13_ h14_ h15_ h16_ h17_ h18_ h19_ h20_ h21_ h22_ h23_ h24_ h25_
            have BK245 := Aside0.mk h5_
            have BK246 := Aside0.mk h6_
            have GW245 := Aside0.mk h7_
            have GE245 := Aside0.mk h8_
            have NB220_245 := Aside0.mk h9_
            have NB245_220 := Aside0.mk h10_
            have NB221_245 := Aside0.mk h11_
            have NB245_221 := Aside0.mk h12_
            have NB222_245 := Aside0.mk h13_
            have NB245_222 := Aside0.mk h14_
            have NB246_245 := Aside0.mk h15_
            have NB245_246 := Aside0.mk h16_
            have GW246 := Aside0.mk h17_
            have GE246 := Aside0.mk h18_
            have NB220_246 := Aside0.mk h19_
            have NB246_220 := Aside0.mk h20_
            have NB221_246 := Aside0.mk h21_
            have NB246_221 := Aside0.mk h22_
            have NB222_246 := Aside0.mk h23_
            have NB246_222 := Aside0.mk h24_
            replace HO_6 := Aside0.mk h0_
            replace HO_7 := Aside0.mk h1_
            replace BK220 := Aside0.mk h2_
            replace BK221 := Aside0.mk h3_
            replace BK222 := Aside0.mk h4_
            replace HB := Aside0.mk h25_
            clear h0_ h1_ h2_ h3_ h4_ h5_ h6_ h7_ h8_ h9_ h10_ h11_ h12_ h13_ h14_ h15_ h16_ h17_ h18_ h19_ h20_ h21_ h22_ h23_ h24_ h25_
            have hHeld : w31.cell? ⟨gb220, 0, none⟩ = some (.int .i64 a0_0) ∧ w31.cell? ⟨gb220, 1, none⟩ = some (.slice A0_1 l0_1.length c0_1) := hS_
            refine norm_ (a' := ?_) ?_ ?_
            rotate_left
            ·simp only [putAll, Act.put, List.setIfInBounds_toArray, List.set_cons_zero, List.set_cons_succ]
             rfl
            refine on 2 (some 42) HT_ (fun K hK => ?_)
            refine gs Try.func175 #[.agg #[.int .i64 a0_0, .slice A0_1 l0_1.length c0_1], .slice Ao26 x6_1.length co26] ?_
            with_reducible refine (spec_l01Product.calls k1 a0_0 _ _ l0_1 _ _ x6_1 t237 t238 _ ?side1 ?side2 ?side3 ?side4 A20.out).mono ?_
            (case side1 => repeat (first | exact (Kd.C_below HR0_1.out HB.out) | (with_reducible refine Kd.C_alloc ?_ _) | (with_reducible refine Kd.C_drewN ?_ _) | (with_reducible refine Kd.C_drew ?_)))
            (case side2 => exact HC0_1.out)
            (case side3 => repeat (first | exact (Kd.R_reads' HO_6.out).2.2 | (with_reducible refine Kd.C_alloc ?_ _) | (with_reducible refine Kd.C_drewN ?_ _) | (with_reducible refine Kd.C_drew ?_)))
            (case side4 => exact (Kd.R_reads' HO_6.out).2.1)
            rintro e w32 ⟨v239, rfl, ho0, hb⟩
            refine ⟨_, rfl, ?_⟩
            have HO240 := Aside0.mk (Kd.R_lower (Kd.R_new' (Kd.R_new' ho0 (Kd.R_lt (rk HO_6.out))) (Kd.R_lt (rk HO_7.out))) (below_size (bks HB.out)))
            replace HO_6 := re HO_6 ho0 hb
            replace HO_7 := re HO_7 ho0 hb
            replace BK220 := bb BK220 hb
            replace BK221 := bb BK221 hb
            replace BK222 := bb BK222 hb
            replace BK245 := bb BK245 hb
            replace BK246 := bb BK246 hb
            replace HB := hs HB hb
            (try clear hb ho0)
            refine hK.out _ _ ⟨(blk_cell BK220.out 0).trans rfl, (blk_cell BK220.out 1).trans rfl⟩ (fun hHeld => ?_)
            clear hK K
            refine nm ?_
            exact norm_ (by first | (simp only [putAll, Act.put, List.setIfInBounds_toArray, List.set_cons_zero, List.set_cons_succ]; done) | (simp only [putAll, Act.put, List.setIfInBounds_toArray, List.set_cons_zero, List.set_cons_succ]; rfl)) (hJ2_6_7 (v239, gb245, gb246) _ ⟨hHeld, (rk (Kd.R_mono HO240.out (fun _ hk => ⟨hk.1.2, hk.2⟩))), (rk (Kd.R_mono HO_6.out (fun _ hk => ⟨hk.2, hk.1⟩))), (rk (Kd.R_mono HO_7.out (fun _ hk => ⟨hk.2, hk.1⟩))), (pk BK220.out), (pk BK221.out), (pk BK222.out), (pk BK245.out), (pk BK246.out), GW245.out, GE245.out, NB220_245.out, NB245_220.out, NB221_245.out, NB245_221.out, NB222_245.out, NB245_222.out, NB246_245.out, NB245_246.out, GW246.out, GE246.out, NB220_246.out, NB246_220.out, NB221_246.out, NB246_221.out, NB222_246.out, NB246_222.out, (bks HB.out)⟩)
          ·skip
           rintro ⟨v239, gb246⟩ w31 ⟨hS_, h0_, h1_, h2_, h3_, h4_, h5_, h6_, h7_, h8_, h9_, h10_, h11_, h12_, h13_, h14_, h15_⟩
           try dsimp only at h0_ h1_ h2_ h3_ h4_ h5_ h6_ h7_ h8_ h9_ h10_ h11_ h12_ h13_ h14_ h15_
           have HO240 := Aside0.mk h0_
           have BK246 := Aside0.mk h6_
           have GW246 := Aside0.mk h7_
           have GE246 := Aside0.mk h8_
           have NB220_246 := Aside0.mk h9_
           have NB246_220 := Aside0.mk h10_
           have NB221_246 := Aside0.mk h11_
           have NB246_221 := Aside0.mk h12_
           have NB222_246 := Aside0.mk h13_
           have NB246_222 := Aside0.mk h14_
           replace HO_6 := Aside0.mk h1_
           replace HO_7 := Aside0.mk h2_
           replace BK220 := Aside0.mk h3_
           replace BK221 := Aside0.mk h4_
           replace BK222 := Aside0.mk h5_
           replace HB := Aside0.mk h15_
           clear h0_ h1_ h2_ h3_ h4_ h5_ h6_ h7_ h8_ h9_ h10_ h11_ h12_ h13_ h14_ h15_
           have hHeld : w31.cell? ⟨gb220, 0, none⟩ = some (.int .i64 a0_0) ∧ w31.cell? ⟨gb220, 1, none⟩ = some (.slice A0_1 l0_1.length c0_1) := hS_
           refine norm_ (a' := ?_) ?_ ?_
           rotate_left
           ·simp only [putAll, Act.put, List.setIfInBounds_toArray, List.set_cons_zero, List.set_cons_succ]
            rfl
           refine two_ (i := 5) (j := 6) (Ni := some 45) (Nj := some 9) #[true, true, true, true, true, true, false, true, false, false] #[true, true, true, true, true, false, true, true, false, false] rfl rfl rfl rfl (two_of HT_.out (by kernel_rfl)) (by decide) (by decide) (fun K hK => ?_) (fun K hK => ?_)
           ·skip
            refine gs Try.func175 #[.agg #[.int .i64 a0_0, .slice A0_1 l0_1.length c0_1], .slice Ao27 x7_1.length co27] ?_
            with_reducible refine (spec_l01Product.calls k1 a0_0 _ _ l0_1 _ _ x7_1 t241 t242 _ ?side1 ?side2 ?side3 ?side4 A21.out).mono ?_
            (case side1 => repeat (first | exact (Kd.C_below HR0_1.out HB.out) | (with_reducible refine Kd.C_alloc ?_ _) | (with_reducible refine Kd.C_drewN ?_ _) | (with_reducible refine Kd.C_drew ?_)))
            (case side2 => exact HC0_1.out)
            (case side3 => repeat (first | exact (Kd.R_reads' HO_7.out).2.2 | (with_reducible refine Kd.C_alloc ?_ _) | (with_reducible refine Kd.C_drewN ?_ _) | (with_reducible refine Kd.C_drew ?_)))
            (case side4 => exact (Kd.R_reads' HO_7.out).2.1)
            rintro e w32 ⟨v243, rfl, ho0, hb⟩
            refine ⟨_, rfl, ?_⟩
            have HO244 := Aside0.mk (Kd.R_lower (Kd.R_new' (Kd.R_new' (Kd.R_new' ho0 (Kd.R_lt (rk HO_6.out))) (Kd.R_lt (rk HO_7.out))) (Kd.R_lt (rk HO240.out))) (below_size (bks HB.out)))
            replace HO_6 := re HO_6 ho0 hb
            replace HO_7 := re HO_7 ho0 hb
            replace HO240 := re HO240 ho0 hb
            replace BK220 := bb BK220 hb
            replace BK221 := bb BK221 hb
            replace BK222 := bb BK222 hb
            replace BK246 := bb BK246 hb
            replace HB := hs HB hb
            (try clear hb ho0)
            refine hK.out _ _ ⟨(blk_cell BK220.out 0).trans rfl, (blk_cell BK220.out 1).trans rfl⟩ (fun hHeld => ?_)
            clear hK K
            refine nm ?_
            exact norm_ (by first | (simp only [putAll, Act.put, List.setIfInBounds_toArray, List.set_cons_zero, List.set_cons_succ]; done) | (simp only [putAll, Act.put, List.setIfInBounds_toArray, List.set_cons_zero, List.set_cons_succ]; rfl)) (hJ2_5_7 (v239, v243, gb246) _ ⟨hHeld, (rk (Kd.R_mono HO240.out (fun _ hk => ⟨hk.2, ⟨hk.1.1, hk.1.2⟩⟩))), (rk (Kd.R_mono HO244.out (fun _ hk => ⟨hk.2, ⟨hk.1.1.2, hk.1.2⟩⟩))), (rk (Kd.R_mono HO_6.out (fun _ hk => ⟨hk.1.1, ⟨hk.2, hk.1.2⟩⟩))), (rk (Kd.R_mono HO_7.out (fun _ hk => ⟨hk.1.1, ⟨hk.2, hk.1.2⟩⟩))), (pk BK220.out), (pk BK221.out), (pk BK222.out), (pk BK246.out), GW246.out, GE246.out, NB220_246.out, NB246_220.out, NB221_246.out, NB246_221.out, NB222_246.out, NB246_222.out, (bks HB.out)⟩)
           ·skip
            refine bs 9 #[.int .i64 0, .slice none 0 0] 29 (fun gb245 hg w32 hbox hb => ?_)
            have BK245 := Aside0.mk hbox
            have GW245 := ge HB hg
            have GE245 := GW245
            obtain ⟨NB220_245, NB245_220⟩ := nb BK220 hg
            obtain ⟨NB221_245, NB245_221⟩ := nb BK221 hg
            obtain ⟨NB222_245, NB245_222⟩ := nb BK222 hg
            obtain ⟨NB246_245, NB245_246⟩ := nb BK246 hg
            replace HO_6 := rb HO_6 hb
            replace HO_7 := rb HO_7 hb
            replace HO240 := rb HO240 hb
            replace BK220 := bb BK220 hb
            replace BK221 := bb BK221 hb
            replace BK222 := bb BK222 hb
            replace BK246 := bb BK246 hb
            replace HB := hs HB hb
            clear hb hbox hg
            refine hK.out _ _ ⟨(blk_cell BK220.out 0).trans rfl, (blk_cell BK220.out 1).trans rfl⟩ (fun hHeld => ?_)
            clear hK K
            refine nm ?_
            exact norm_ (by first | (simp only [putAll, Act.put, List.setIfInBounds_toArray, List.set_cons_zero, List.set_cons_succ]; done) | (simp only [putAll, Act.put, List.setIfInBounds_toArray, List.set_cons_zero, List.set_cons_succ]; rfl)) (hJ2_6_7 (v239, gb245, gb246) _ ⟨hHeld, (rk HO240.out), (rk HO_6.out), (rk HO_7.out), (pk BK220.out), (pk BK221.out), (pk BK222.out), (pk BK245.out), (pk BK246.out), GW245.out, GE245.out, NB220_245.out, NB245_220.out, NB221_245.out, NB245_221.out, NB222_245.out, NB245_222.out, NB246_245.out, NB245_246.out, GW246.out, GE246.out, NB220_246.out, NB246_220.out, NB221_246.out, NB246_221.out, NB222_246.out, NB246_222.out, (bks HB.out)⟩)
         ·skip
          rintro ⟨v239, gb245⟩ w31 ⟨hS_, h0_, h1_, h2_, h3_, h4_, h5_, h6_, h7_, h8_, h9_, h10_, h11_, h12_, h13_, h14_, h15_⟩
          try dsimp only at h0_ h1_ h2_ h3_ h4_ h5_ h6_ h7_ h8_ h9_ h10_ h11_ h12_ h13_ h14_ h15_
          have HO240 := Aside0.mk h0_
          have BK245 := Aside0.mk h6_
          have GW245 := Aside0.mk h7_
          have GE245 := Aside0.mk h8_
          have NB220_245 := Aside0.mk h9_
          have NB245_220 := Aside0.mk h10_
          have NB221_245 := Aside0.mk h11_
          have NB245_221 := Aside0.mk h12_
          have NB222_245 := Aside0.mk h13_
          have NB245_222 := Aside0.mk h14_
          replace HO_6 := Aside0.mk h1_
          replace HO_7 := Aside0.mk h2_
          replace BK220 := Aside0.mk h3_
          replace BK221 := Aside0.mk h4_
          replace BK222 := Aside0.mk h5_
          replace HB := Aside0.mk h15_
          clear h0_ h1_ h2_ h3_ h4_ h5_ h6_ h7_ h8_ h9_ h10_ h11_ h12_ h13_ h14_ h15_
          have hHeld : w31.cell? ⟨gb220, 0, none⟩ = some (.int .i64 a0_0) ∧ w31.cell? ⟨gb220, 1, none⟩ = some (.slice A0_1 l0_1.length c0_1) := hS_
          refine norm_ (a' := ?_) ?_ ?_
          rotate_left
          ·simp only [putAll, Act.put, List.setIfInBounds_toArray, List.set_cons_zero, List.set_cons_succ]
           rfl
          refine two_ (i := 5) (j := 7) (Ni := some 45) (Nj := some 10) #[true, true, true, true, true, true, true, false, false, false] #[true, true, true, true, true, false, true, true, false, false] rfl rfl rfl rfl (two_of HT_.out (by kernel_rfl)) (by decide) (by decide) (fun K hK => ?_) (fun K hK => ?_)
          ·skip
           refine gs Try.func175 #[.agg #[.int .i64 a0_0, .slice A0_1 l0_1.length c0_1], .slice Ao27 x7_1.length co27] ?_
           with_reducible refine (spec_l01Product.calls k1 a0_0 _ _ l0_1 _ _ x7_1 t241 t242 _ ?side1 ?side2 ?side3 ?side4 A21.out).mono ?_
           (case side1 => repeat (first | exact (Kd.C_below HR0_1.out HB.out) | (with_reducible refine Kd.C_alloc ?_ _) | (with_reducible refine Kd.C_drewN ?_ _) | (with_reducible refine Kd.C_drew ?_)))
           (case side2 => exact HC0_1.out)
           (case side3 => repeat (first | exact (Kd.R_reads' HO_7.out).2.2 | (with_reducible refine Kd.C_alloc ?_ _) | (with_reducible refine Kd.C_drewN ?_ _) | (with_reducible refine Kd.C_drew ?_)))
           (case side4 => exact (Kd.R_reads' HO_7.out).2.1)
           rintro e w32 ⟨v243, rfl, ho0, hb⟩
           refine ⟨_, rfl, ?_⟩
           have HO244 := Aside0.mk (Kd.R_lower (Kd.R_new' (Kd.R_new' (Kd.R_new' ho0 (Kd.R_lt (rk HO_6.out))) (Kd.R_lt (rk HO_7.out))) (Kd.R_lt (rk HO240.out))) (below_size (bks HB.out)))
           replace HO_6 := re HO_6 ho0 hb
           replace HO_7 := re HO_7 ho0 hb
           replace HO240 := re HO240 ho0 hb
           replace BK220 := bb BK220 hb
           replace BK221 := bb BK221 hb
           replace BK222 := bb BK222 hb
           replace BK245 := bb BK245 hb
           replace HB := hs HB hb
           (try clear hb ho0)
           refine hK.out _ _ ⟨(blk_cell BK220.out 0).trans rfl, (blk_cell BK220.out 1).trans rfl⟩ (fun hHeld => ?_)
           clear hK K
           refine nm ?_
           exact norm_ (by first | (simp only [putAll, Act.put, List.setIfInBounds_toArray, List.set_cons_zero, List.set_cons_succ]; done) | (simp only [putAll, Act.put, List.setIfInBounds_toArray, List.set_cons_zero, List.set_cons_succ]; rfl)) (hJ2_5_6 (v239, v243, gb245) _ ⟨hHeld, (rk (Kd.R_mono HO240.out (fun _ hk => ⟨hk.2, ⟨hk.1.1, hk.1.2⟩⟩))), (rk (Kd.R_mono HO244.out (fun _ hk => ⟨hk.2, ⟨hk.1.1.2, hk.1.2⟩⟩))), (rk (Kd.R_mono HO_6.out (fun _ hk => ⟨hk.1.1, ⟨hk.2, hk.1.2⟩⟩))), (rk (Kd.R_mono HO_7.out (fun _ hk => ⟨hk.1.1, ⟨hk.2, hk.1.2⟩⟩))), (pk BK220.out), (pk BK221.out), (pk BK222.out), (pk BK245.out), GW245.out, GE245.out, NB220_245.out, NB245_220.out, NB221_245.out, NB245_221.out, NB222_245.out, NB245_222.out, (bks HB.out)⟩)
          ·skip
           refine bs 10 #[.int .i64 0, .slice none 0 0] 29 (fun gb246 hg w32 hbox hb => ?_)
           have BK246 := Aside0.mk hbox
           have GW246 := ge HB hg
           have GE246 := GW246
           obtain ⟨NB220_246, NB246_220⟩ := nb BK220 hg
           obtain ⟨NB221_246, NB246_221⟩ := nb BK221 hg
           obtain ⟨NB222_246, NB246_222⟩ := nb BK222 hg
           obtain ⟨NB245_246, NB246_245⟩ := nb BK245 hg
           replace HO_6 := rb HO_6 hb
           replace HO_7 := rb HO_7 hb
           replace HO240 := rb HO240 hb
           replace BK220 := bb BK220 hb
           replace BK221 := bb BK221 hb
           replace BK222 := bb BK222 hb
           replace BK245 := bb BK245 hb
           replace HB := hs HB hb
           clear hb hbox hg
           refine hK.out _ _ ⟨(blk_cell BK220.out 0).trans rfl, (blk_cell BK220.out 1).trans rfl⟩ (fun hHeld => ?_)
           clear hK K
           refine nm ?_
           exact norm_ (by first | (simp only [putAll, Act.put, List.setIfInBounds_toArray, List.set_cons_zero, List.set_cons_succ]; done) | (simp only [putAll, Act.put, List.setIfInBounds_toArray, List.set_cons_zero, List.set_cons_succ]; rfl)) (hJ2_6_7 (v239, gb245, gb246) _ ⟨hHeld, (rk HO240.out), (rk HO_6.out), (rk HO_7.out), (pk BK220.out), (pk BK221.out), (pk BK222.out), (pk BK245.out), (pk BK246.out), GW245.out, GE245.out, NB220_245.out, NB245_220.out, NB221_245.out, NB245_221.out, NB222_245.out, NB245_222.out, NB246_245.out, NB245_246.out, GW246.out, GE246.out, NB220_246.out, NB246_220.out, NB221_246.out, NB246_221.out, NB222_246.out, NB246_222.out, (bks HB.out)⟩)
        ·skip
         rintro ⟨v239, v243⟩ w31 ⟨hS_, h0_, h1_, h2_, h3_, h4_, h5_, h6_, h7_⟩
         try dsimp only at h0_ h1_ h2_ h3_ h4_ h5_ h6_ h7_
         have HO240 := Aside0.mk h0_
         have HO244 := Aside0.mk h1_
         replace HO_6 := Aside0.mk h2_
         replace HO_7 := Aside0.mk h3_
         replace BK220 := Aside0.mk h4_
         replace BK221 := Aside0.mk h5_
         replace BK222 := Aside0.mk h6_
         replace HB := Aside0.mk h7_
         clear h0_ h1_ h2_ h3_ h4_ h5_ h6_ h7_
         have hHeld : w31.cell? ⟨gb220, 0, none⟩ = some (.int .i64 a0_0) ∧ w31.cell? ⟨gb220, 1, none⟩ = some (.slice A0_1 l0_1.length c0_1) := hS_
         refine norm_ (a' := ?_) ?_ ?_
         rotate_left
         ·simp only [putAll, Act.put, List.setIfInBounds_toArray, List.set_cons_zero, List.set_cons_succ]
          rfl
         refine two_ (i := 6) (j := 7) (Ni := some 9) (Nj := some 10) #[true, true, true, true, true, true, true, false, false, false] #[true, true, true, true, true, true, false, true, false, false] rfl rfl rfl rfl (two_of HT_.out (by kernel_rfl)) (by decide) (by decide) (fun K hK => ?_) (fun K hK => ?_)
         ·skip
          refine bs 9 #[.int .i64 0, .slice none 0 0] 29 (fun gb245 hg w32 hbox hb => ?_)
          have BK245 := Aside0.mk hbox
          have GW245 := ge HB hg
          have GE245 := GW245
          obtain ⟨NB220_245, NB245_220⟩ := nb BK220 hg
          obtain ⟨NB221_245, NB245_221⟩ := nb BK221 hg
          obtain ⟨NB222_245, NB245_222⟩ := nb BK222 hg
          replace HO_6 := rb HO_6 hb
          replace HO_7 := rb HO_7 hb
          replace HO240 := rb HO240 hb
          replace HO244 := rb HO244 hb
          replace BK220 := bb BK220 hb
          replace BK221 := bb BK221 hb
          replace BK222 := bb BK222 hb
          replace HB := hs HB hb
          clear hb hbox hg
          refine hK.out _ _ ⟨(blk_cell BK220.out 0).trans rfl, (blk_cell BK220.out 1).trans rfl⟩ (fun hHeld => ?_)
          clear hK K
          refine nm ?_
          exact norm_ (by first | (simp only [putAll, Act.put, List.setIfInBounds_toArray, List.set_cons_zero, List.set_cons_succ]; done) | (simp only [putAll, Act.put, List.setIfInBounds_toArray, List.set_cons_zero, List.set_cons_succ]; rfl)) (hJ2_5_6 (v239, v243, gb245) _ ⟨hHeld, (rk HO240.out), (rk HO244.out), (rk HO_6.out), (rk HO_7.out), (pk BK220.out), (pk BK221.out), (pk BK222.out), (pk BK245.out), GW245.out, GE245.out, NB220_245.out, NB245_220.out, NB221_245.out, NB245_221.out, NB222_245.out, NB245_222.out, (bks HB.out)⟩)
         ·skip
          refine bs 10 #[.int .i64 0, .slice none 0 0] 29 (fun gb246 hg w32 hbox hb => ?_)
          have BK246 := Aside0.mk hbox
          have GW246 := ge HB hg
          have GE246 := GW246
          obtain ⟨NB220_246, NB246_220⟩ := nb BK220 hg
          obtain ⟨NB221_246, NB246_221⟩ := nb BK221 hg
          obtain ⟨NB222_246, NB246_222⟩ := nb BK222 hg
          replace HO_6 := rb HO_6 hb
          replace HO_7 := rb HO_7 hb
          replace HO240 := rb HO240 hb
          replace HO244 := rb HO244 hb
          replace BK220 := bb BK220 hb
          replace BK221 := bb BK221 hb
          replace BK222 := bb BK222 hb
          replace HB := hs HB hb
          clear hb hbox hg
          refine hK.out _ _ ⟨(blk_cell BK220.out 0).trans rfl, (blk_cell BK220.out 1).trans rfl⟩ (fun hHeld => ?_)
          clear hK K
          refine nm ?_
          exact norm_ (by first | (simp only [putAll, Act.put, List.setIfInBounds_toArray, List.set_cons_zero, List.set_cons_succ]; done) | (simp only [putAll, Act.put, List.setIfInBounds_toArray, List.set_cons_zero, List.set_cons_succ]; rfl)) (hJ2_5_7 (v239, v243, gb246) _ ⟨hHeld, (rk HO240.out), (rk HO244.out), (rk HO_6.out), (rk HO_7.out), (pk BK220.out), (pk BK221.out), (pk BK222.out), (pk BK246.out), GW246.out, GE246.out, NB220_246.out, NB246_220.out, NB221_246.out, NB246_221.out, NB222_246.out, NB246_222.out, (bks HB.out)⟩)
       ·skip
        rintro ⟨v239, gb245, gb246⟩ w32 ⟨hS_, h0_, h1_, h2_, h3_, h4_, h5_, h6_, h7_, h8_, h9_, h10_, h11_, h12_, h13_, h14_, h15_, h16_, h17_, h18_, h19_, h20_, h21_, h22_, h23_, h24_, h25_, h26_⟩
        try dsimp only at h0_ h1_ h2_ h3_ h4_ h5_ h6_ h7_ h8_ h9_ h10_ h11_ h12_ h13_ h14_ h15_ h16_ h17_ h18_ h19_ h20_ h21_ h22_ h23_ h24_ h25_ h26_
        have HO240 := Aside0.mk h0_
        have BK245 := Aside0.mk h6_
        have BK246 := Aside0.mk h7_
        have GW245 := Aside0.mk h8_
        have GE245 := Aside0.mk h9_
        have NB220_245 := Aside0.mk h10_
        have NB245_220 := Aside0.mk h11_
        have NB221_245 := Aside0.mk h12_
        have NB245_221 := Aside0.mk h13_
        have NB222_245 := Aside0.mk h14_
        have NB245_222 := Aside0.mk h15_
        have NB246_245 := Aside0.mk h16_
        have NB245_246 := Aside0.mk h17_
        have GW246 := Aside0.mk h18_
        have GE246 := Aside0.mk h19_
        have NB220_246 := Aside0.mk h20_
        have NB246_220 := Aside0.mk h21_
        have NB221_246 := Aside0.mk h22_
        have NB246_221 := Aside0.mk h23_
        have NB222_246 := Aside0.mk h24_
        have NB246_222 := Aside0.mk h25_
        replace HO_6 := Aside0.mk h1_
        replace HO_7 := Aside0.mk h2_
        replace BK220 := Aside0.mk h3_
        replace BK221 := Aside0.mk h4_
        replace BK222 := Aside0.mk h5_
        replace HB := Aside0.mk h26_
        clear h0_ h1_ h2_ h3_ h4_ h5_ h6_ h7_ h8_ h9_ h10_ h11_ h12_ h13_ h14_ h15_ h16_ h17_ h18_ h19_ h20_ h21_ h22_ h23_ h24_ h25_ h26_
        have hHeld : w32.cell? ⟨gb220, 0, none⟩ = some (.int .i64 a0_0) ∧ w32.cell? ⟨gb220, 1, none⟩ = some (.slice A0_1 l0_1.length c0_1) := hS_
        refine norm_ (a' := ?_) ?_ ?_
        rotate_left
        ·simp only [putAll, Act.put, List.setIfInBounds_toArray, List.set_cons_zero, List.set_cons_succ]
         rfl
        refine on 5 (some 45) HT_ (fun K hK => ?_)
        refine gs Try.func175 #[.agg #[.int .i64 a0_0, .slice A0_1 l0_1.length c0_1], .slice Ao27 x7_1.length co27] ?_
        with_reducible refine (spec_l01Product.calls k1 a0_0 _ _ l0_1 _ _ x7_1 t241 t242 _ ?side1 ?side2 ?side3 ?side4 A21.out).mono ?_
        (case side1 => repeat (first | exact (Kd.C_below HR0_1.out HB.out) | (with_reducible refine Kd.C_alloc ?_ _) | (with_reducible refine Kd.C_drewN ?_ _) | (with_reducible refine Kd.C_drew ?_)))
        (case side2 => exact HC0_1.out)
        (case side3 => repeat (first | exact (Kd.R_reads' HO_7.out).2.2 | (with_reducible refine Kd.C_alloc ?_ _) | (with_reducible refine Kd.C_drewN ?_ _) | (with_reducible refine Kd.C_drew ?_)))
        (case side4 => exact (Kd.R_reads' HO_7.out).2.1)
        rintro e w33 ⟨v243, rfl, ho0, hb⟩
        refine ⟨_, rfl, ?_⟩
        have HO244 := Aside0.mk (Kd.R_lower (Kd.R_new' (Kd.R_new' (Kd.R_new' ho0 (Kd.R_lt (rk HO_6.out))) (Kd.R_lt (rk HO_7.out))) (Kd.R_lt (rk HO240.out))) (below_size (bks HB.out)))
        replace HO_6 := re HO_6 ho0 hb
        replace HO_7 := re HO_7 ho0 hb
        replace HO240 := re HO240 ho0 hb
        replace BK220 := bb BK220 hb
        replace BK221 := bb BK221 hb
        replace BK222 := bb BK222 hb
        replace BK245 := bb BK245 hb
        replace BK246 := bb BK246 hb
        replace HB := hs HB hb
        (try clear hb ho0)
        refine hK.out _ _ ⟨(blk_cell BK220.out 0).trans rfl, (blk_cell BK220.out 1).trans rfl⟩ (fun hHeld => ?_)
        clear hK K
        refine nm ?_
        exact norm_ (by first | (simp only [putAll, Act.put, List.setIfInBounds_toArray, List.set_cons_zero, List.set_cons_succ]; done) | (simp only [putAll, Act.put, List.setIfInBounds_toArray, List.set_cons_zero, List.set_cons_succ]; rfl)) (hJ2_5_6_7 (v239, v243, gb245, gb246) _ ⟨hHeld, (rk (Kd.R_mono HO240.out (fun _ hk => ⟨hk.2, ⟨hk.1.1, hk.1.2⟩⟩))), (rk (Kd.R_mono HO244.out (fun _ hk => ⟨hk.2, ⟨hk.1.1.2, hk.1.2⟩⟩))), (rk (Kd.R_mono HO_6.out (fun _ hk => ⟨hk.1.1, ⟨hk.2, hk.1.2⟩⟩))), (rk (Kd.R_mono HO_7.out (fun _ hk => ⟨hk.1.1, ⟨hk.2, hk.1.2⟩⟩))), (pk BK220.out), (pk BK221.out), (pk BK222.out), (pk BK245.out), (pk BK246.out), GW245.out, GE245.out, NB220_245.out, NB245_220.out, NB221_245.out, NB245_221.out, NB222_245.out, NB245_222.out, NB246_245.out, NB245_246.out, GW246.out, GE246.out, NB220_246.out, NB246_220.out, NB221_246.out, NB246_221.out, NB222_246.out, NB246_222.out, (bks HB.out)⟩)
      ·skip
       rintro ⟨v239, v243, gb246⟩ w32 ⟨hS_, h0_, h1_, h2_, h3_, h4_, h5_, h6_, h7_, h8_, h9_, h10_, h11_, h12_, h13_, h14_, h15_, h16_⟩
       try dsimp only at h0_ h1_ h2_ h3_ h4_ h5_ h6_ h7_ h8_ h9_ h10_ h11_ h12_ h13_ h14_ h15_ h16_
       have HO240 := Aside0.mk h0_
       have HO244 := Aside0.mk h1_
       have BK246 := Aside0.mk h7_
       have GW246 := Aside0.mk h8_
       have GE246 := Aside0.mk h9_
       have NB220_246 := Aside0.mk h10_
       have NB246_220 := Aside0.mk h11_
       have NB221_246 := Aside0.mk h12_
       have NB246_221 := Aside0.mk h13_
       have NB222_246 := Aside0.mk h14_
       have NB246_222 := Aside0.mk h15_
       replace HO_6 := Aside0.mk h2_
       replace HO_7 := Aside0.mk h3_
       replace BK220 := Aside0.mk h4_
       replace BK221 := Aside0.mk h5_
       replace BK222 := Aside0.mk h6_
       replace HB := Aside0.mk h16_
       clear h0_ h1_ h2_ h3_ h4_ h5_ h6_ h7_ h8_ h9_ h10_ h11_ h12_ h13_ h14_ h15_ h16_
       have hHeld : w32.cell? ⟨gb220, 0, none⟩ = some (.int .i64 a0_0) ∧ w32.cell? ⟨gb220, 1, none⟩ = some (.slice A0_1 l0_1.length c0_1) := hS_
       refine norm_ (a' := ?_) ?_ ?_
       rotate_left
       ·simp only [putAll, Act.put, List.setIfInBounds_toArray, List.set_cons_zero, List.set_cons_succ]
        rfl
       refine on 6 (some 9) HT_ (fun K hK => ?_)
       refine bs 9 #[.int .i64 0, .slice none 0 0] 29 (fun gb245 hg w33 hbox hb => ?_)
       have BK245 := Aside0.mk hbox
       have GW245 := ge HB hg
       have GE245 := GW245
       obtain ⟨NB220_245, NB245_220⟩ := nb BK220 hg
       obtain ⟨NB221_245, NB245_221⟩ := nb BK221 hg
       obtain ⟨NB222_245, NB245_222⟩ := nb BK222 hg
       obtain ⟨NB246_245, NB245_246⟩ := nb BK246 hg
       replace HO_6 := rb HO_6 hb
       replace HO_7 := rb HO_7 hb
       replace HO240 := rb HO240 hb
       replace HO244 := rb HO244 hb
       replace BK220 := bb BK220 hb
       replace BK221 := bb BK221 hb
       replace BK222 := bb BK222 hb
       replace BK246 := bb BK246 hb
       replace HB := hs HB hb
       clear hb hbox hg
       refine hK.out _ _ ⟨(blk_cell BK220.out 0).trans rfl, (blk_cell BK220.out 1).trans rfl⟩ (fun hHeld => ?_)
       clear hK K
       refine nm ?_
       exact norm_ (by first | (simp only [putAll, Act.put, List.setIfInBounds_toArray, List.set_cons_zero, List.set_cons_succ]; done) | (simp only [putAll, Act.put, List.setIfInBounds_toArray, List.set_cons_zero, List.set_cons_succ]; rfl)) (hJ2_5_6_7 (v239, v243, gb245, gb246) _ ⟨hHeld, (rk HO240.out), (rk HO244.out), (rk HO_6.out), (rk HO_7.out), (pk BK220.out), (pk BK221.out), (pk BK222.out), (pk BK245.out), (pk BK246.out), GW245.out, GE245.out, NB220_245.out, NB245_220.out, NB221_245.out, NB245_221.out, NB222_245.out, NB245_222.out, NB246_245.out, NB245_246.out, GW246.out, GE246.out, NB220_246.out, NB246_220.out, NB221_246.out, NB246_221.out, NB222_246.out, NB246_222.out, (bks HB.out)⟩)
     ·skip
      rintro ⟨v239, v243, gb245⟩ w32 ⟨hS_, h0_, h1_, h2_, h3_, h4_, h5_, h6_, h7_, h8_, h9_, h10_, h11_, h12_, h13_, h14_, h15_, h16_⟩
      try dsimp only at h0_ h1_ h2_ h3_ h4_ h5_ h6_ h7_ h8_ h9_ h10_ h11_ h12_ h13_ h14_ h15_ h16_
      have HO240 := Aside0.mk h0_
      have HO244 := Aside0.mk h1_
      have BK245 := Aside0.mk h7_
      have GW245 := Aside0.mk h8_
      have GE245 := Aside0.mk h9_
      have NB220_245 := Aside0.mk h10_
      have NB245_220 := Aside0.mk h11_
      have NB221_245 := Aside0.mk h12_
      have NB245_221 := Aside0.mk h13_
      have NB222_245 := Aside0.mk h14_
      have NB245_222 := Aside0.mk h15_
      replace HO_6 := Aside0.mk h2_
      replace HO_7 := Aside0.mk h3_
      replace BK220 := Aside0.mk h4_
      replace BK221 := Aside0.mk h5_
      replace BK222 := Aside0.mk h6_
      replace HB := Aside0.mk h16_
      clear h0_ h1_ h2_ h3_ h4_ h5_ h6_ h7_ h8_ h9_ h10_ h11_ h12_ h13_ h14_ h15_ h16_
      have hHeld : w32.cell? ⟨gb220, 0, none⟩ = some (.int .i64 a0_0) ∧ w32.cell? ⟨gb220, 1, none⟩ = some (.slice A0_1 l0_1.length c0_1) := hS_
      refine norm_ (a' := ?_) ?_ ?_
      rotate_left
      ·simp only [putAll, Act.put, List.setIfInBounds_toArray, List.set_cons_zero, List.set_cons_succ]
       rfl
      refine on 7 (some 10) HT_ (fun K hK => ?_)
      refine bs 10 #[.int .i64 0, .slice none 0 0] 29 (fun gb246 hg w33 hbox hb => ?_)
      have BK246 := Aside0.mk hbox
      have GW246 := ge HB hg
      have GE246 := GW246
      obtain ⟨NB220_246, NB246_220⟩ := nb BK220 hg
      obtain ⟨NB221_246, NB246_221⟩ := nb BK221 hg
      obtain ⟨NB222_246, NB246_222⟩ := nb BK222 hg
      obtain ⟨NB245_246, NB246_245⟩ := nb BK245 hg
      replace HO_6 := rb HO_6 hb
      replace HO_7 := rb HO_7 hb
      replace HO240 := rb HO240 hb
      replace HO244 := rb HO244 hb
      replace BK220 := bb BK220 hb
      replace BK221 := bb BK221 hb
      replace BK222 := bb BK222 hb
      replace BK245 := bb BK245 hb
      replace HB := hs HB hb
      clear hb hbox hg
      refine hK.out _ _ ⟨(blk_cell BK220.out 0).trans rfl, (blk_cell BK220.out 1).trans rfl⟩ (fun hHeld => ?_)
      clear hK K
      refine nm ?_
      exact norm_ (by first | (simp only [putAll, Act.put, List.setIfInBounds_toArray, List.set_cons_zero, List.set_cons_succ]; done) | (simp only [putAll, Act.put, List.setIfInBounds_toArray, List.set_cons_zero, List.set_cons_succ]; rfl)) (hJ2_5_6_7 (v239, v243, gb245, gb246) _ ⟨hHeld, (rk HO240.out), (rk HO244.out), (rk HO_6.out), (rk HO_7.out), (pk BK220.out), (pk BK221.out), (pk BK222.out), (pk BK245.out), (pk BK246.out), GW245.out, GE245.out, NB220_245.out, NB245_220.out, NB221_245.out, NB245_221.out, NB222_245.out, NB245_222.out, NB246_245.out, NB245_246.out, GW246.out, GE246.out, NB220_246.out, NB246_220.out, NB221_246.out, NB246_221.out, NB222_246.out, NB246_222.out, (bks HB.out)⟩)
    rintro ⟨v239, v243, gb245, gb246⟩ w33 ⟨hS_, h0_, h1_, h2_, h3_, h4_, h5_, h6_, h7_, h8_, h9_, h10_, h11_, h12_, h13_, h14_, h15_, h16_, h17_, h18_, h19_, h20_, h21_, h22_, h23_, h24_, h25_, h26_, h27_⟩
    try dsimp only at h0_ h1_ h2_ h3_ h4_ h5_ h6_ h7_ h8_ h9_ h10_ h11_ h12_ h13_ h14_ h15_ h16_ h17_ h18_ h19_ h20_ h21_ h22_ h23_ h24_ h25_ h26_ h27_
    have HO240 := Aside0.mk h0_
    have HO244 := Aside0.mk h1_
    have BK245 := Aside0.mk h7_
    have BK246 := Aside0.mk h8_
    have GW245 := Aside0.mk h9_
    have GE245 := Aside0.mk h10_
    have NB220_245 := Aside0.mk h11_
    have NB245_220 := Aside0.mk h12_
    have NB221_245 := Aside0.mk h13_
    have NB245_221 := Aside0.mk h14_
    have NB222_245 := Aside0.mk h15_
    have NB245_222 := Aside0.mk h16_
    have NB246_245 := Aside0.mk h17_
    have NB245_246 := Aside0.mk h18_
    have GW246 := Aside0.mk h19_
    have GE246 := Aside0.mk h20_
    have NB220_246 := Aside0.mk h21_
    have NB246_220 := Aside0.mk h22_
    have NB221_246 := Aside0.mk h23_
    have NB246_221 := Aside0.mk h24_
    have NB222_246 := Aside0.mk h25_
    have NB246_222 := Aside0.mk h26_
    replace HO_6 := Aside0.mk h2_
    replace HO_7 := Aside0.mk h3_
    replace BK220 := Aside0.mk h4_
    replace BK221 := Aside0.mk h5_
    replace BK222 := Aside0.mk h6_
    replace HB := Aside0.mk h27_
    clear h0_ h1_ h2_ h3_ h4_ h5_ h6_ h7_ h8_ h9_ h10_ h11_ h12_ h13_ h14_ h15_ h16_ h17_ h18_ h19_ h20_ h21_ h22_ h23_ h24_ h25_ h26_ h27_
    have hHeld : w33.cell? ⟨gb220, 0, none⟩ = some (.int .i64 a0_0) ∧ w33.cell? ⟨gb220, 1, none⟩ = some (.slice A0_1 l0_1.length c0_1) := hS_
    obtain ⟨Ao35, co35, eo35⟩ := Kd.R_slice HO240.out
    (first | subst eo35 | (injection eo35 with f1_ f2_ f3_; have f4_ := f1_.symm; have f5_ := f3_.symm; clear f1_ f2_ f3_; subst f4_; subst f5_))
    obtain ⟨Ao38, co38, eo38⟩ := Kd.R_slice HO244.out
    (first | subst eo38 | (injection eo38 with f1_ f2_ f3_; have f4_ := f1_.symm; have f5_ := f3_.symm; clear f1_ f2_ f3_; subst f4_; subst f5_))
    refine norm_ (a' := ?_) ?_ ?_
    rotate_left
    ·simp only [putAll, Act.put, List.setIfInBounds_toArray, List.set_cons_zero, List.set_cons_succ]
     rfl
    refine on 8 none HT_ (fun K hK => ?_)
    have hs34 : w33.cell? ⟨gb245, 0, none⟩ = some (.int .i64 0) := (blk_cell BK245.out 0).trans rfl
    have hfs34 := blk_frozen BK245.out 0
    have hns34_0 := NB220_245.out
    have hns34_1 := NB221_245.out
    have hns34_2 := NB222_245.out
    have hns34_4 := NB246_245.out
    have hms34_0 := NB245_220.out
    have hms34_1 := NB245_221.out
    have hms34_2 := NB245_222.out
    have hms34_4 := NB245_246.out
    have hs36 : w33.cell? ⟨gb245, 1, none⟩ = some (.slice none 0 0) := (blk_cell BK245.out 1).trans rfl
    have hfs36 := blk_frozen BK245.out 1
    have hns36_0 := NB220_245.out
    have hns36_1 := NB221_245.out
    have hns36_2 := NB222_245.out
    have hns36_4 := NB246_245.out
    have hms36_0 := NB245_220.out
    have hms36_1 := NB245_221.out
    have hms36_2 := NB245_222.out
    have hms36_4 := NB245_246.out
    refine skip_ (w1 := ?_) (by rfl) rfl ?_ ?_
    rotate_left
    ·go_simp
     rfl
    refine hK.out _ _ ⟨((cell_far (p := ⟨gb245, _, none⟩) NB220_245.out _).trans (((cell_far (p := ⟨gb245, _, none⟩) NB220_245.out _).trans (hHeld.1)))), ((cell_far (p := ⟨gb245, _, none⟩) NB220_245.out _).trans (((cell_far (p := ⟨gb245, _, none⟩) NB220_245.out _).trans (hHeld.2))))⟩ (fun hHeld => ?_)
    clear hK K
    refine on 9 none HT_ (fun K hK => ?_)
    have hs37 : w33.cell? ⟨gb246, 0, none⟩ = some (.int .i64 0) := (blk_cell BK246.out 0).trans rfl
    have hfs37 := blk_frozen BK246.out 0
    have hns37_0 := NB220_246.out
    have hns37_1 := NB221_246.out
    have hns37_2 := NB222_246.out
    have hns37_3 := NB245_246.out
    have hms37_0 := NB246_220.out
    have hms37_1 := NB246_221.out
    have hms37_2 := NB246_222.out
    have hms37_3 := NB246_245.out
    have hs39 : w33.cell? ⟨gb246, 1, none⟩ = some (.slice none 0 0) := (blk_cell BK246.out 1).trans rfl
    have hfs39 := blk_frozen BK246.out 1
    have hns39_0 := NB220_246.out
    have hns39_1 := NB221_246.out
    have hns39_2 := NB222_246.out
    have hns39_3 := NB245_246.out
    have hms39_0 := NB246_220.out
    have hms39_1 := NB246_221.out
    have hms39_2 := NB246_222.out
    have hms39_3 := NB246_245.out
    refine skip_ (w1 := ?_) (by rfl) rfl ?_ ?_
    rotate_left
    ·go_simp
     rfl
    refine hK.out _ _ ⟨((cell_far (p := ⟨gb246, _, none⟩) NB220_246.out _).trans (((cell_far (p := ⟨gb246, _, none⟩) NB220_246.out _).trans (hHeld.1)))), ((cell_far (p := ⟨gb246, _, none⟩) NB220_246.out _).trans (((cell_far (p := ⟨gb246, _, none⟩) NB220_246.out _).trans (hHeld.2))))⟩ (fun hHeld => ?_)
    clear hK K
    refine done_ (done_of HT_.out (by kernel_rfl)) ?_
    have hnb40 := NB220_222.out
    have hnc40 := NB222_220.out
    have hnb41 := NB220_245.out
    have hnc41 := NB245_220.out
    have hnb42 := NB220_246.out
    have hnc42 := NB246_220.out
    have hcz43_0 : w33.cell? ⟨gb220, 0, none⟩ = some (.int .i64 a0_0) := (blk_cell BK220.out 0).trans rfl
    have hcz43_1 : w33.cell? ⟨gb220, 1, none⟩ = some (.slice A0_1 l0_1.length c0_1) := (blk_cell BK220.out 1).trans rfl
    have hfz43_0 := blk_frozen BK220.out 0
    have hfz43_1 := blk_frozen BK220.out 1
    try go_wp2_with (first | ((with_reducible refine gate_callee (f := 148) rfl ?_); refine gl (some 48) Try.func148 #[.int .i64 a0_0] ?_; (with_reducible refine (spec_l01Zero.calls k1 a0_0 t247 t248 _ A22.out).mono ?_); rintro e w44 ⟨v249, rfl, ho0, hb⟩; refine ⟨_, rfl, ?_⟩; have HO250 := Aside0.mk (Kd.R_lower (Kd.R_new' (Kd.R_new' (Kd.R_new' (Kd.R_new' ho0 (Kd.R_lt (rx HO_6))) (Kd.R_lt (rx HO_7))) (Kd.R_lt (rx HO240))) (Kd.R_lt (rx HO244))) (below_size (bks HB.out))); replace HO_6 := re HO_6 ho0 hb; replace HO_7 := re HO_7 ho0 hb; replace HO240 := re HO240 ho0 hb; replace HO244 := re HO244 ho0 hb; replace BK220 := bb BK220 hb; replace BK221 := bb BK221 hb; replace BK222 := bb BK222 hb; replace BK245 := Aside0.mk (blk_below (g := gb245) (o := .cells #[.int .i64 t237, .slice Ao35 t238.length co35] 29 (0, 0)) (by (with_reducible repeat (first | refine blk_drewN ?_ _ | refine blk_drew ?_ | refine blk_alloc ?_ _)); refine blk_far ?_ NB245_246.out _; (with_reducible repeat (first | refine blk_drewN ?_ _ | refine blk_drew ?_ | refine blk_alloc ?_ _)); refine blk_far ?_ NB245_246.out _; (with_reducible repeat (first | refine blk_drewN ?_ _ | refine blk_drew ?_ | refine blk_alloc ?_ _)); refine blk_put (cs := #[.int .i64 t237, .slice none 0 0]) ?_ 1 _ rfl; (with_reducible repeat (first | refine blk_drewN ?_ _ | refine blk_drew ?_ | refine blk_alloc ?_ _)); refine blk_put (cs := #[.int .i64 0, .slice none 0 0]) ?_ 0 _ rfl; (with_reducible repeat (first | refine blk_drewN ?_ _ | refine blk_drew ?_ | refine blk_alloc ?_ _)); exact BK245.out) hb); replace BK246 := Aside0.mk (blk_below (g := gb246) (o := .cells #[.int .i64 t241, .slice Ao38 t242.length co38] 29 (0, 0)) (by (with_reducible repeat (first | refine blk_drewN ?_ _ | refine blk_drew ?_ | refine blk_alloc ?_ _)); refine blk_put (cs := #[.int .i64 t241, .slice none 0 0]) ?_ 1 _ rfl; (with_reducible repeat (first | refine blk_drewN ?_ _ | refine blk_drew ?_ | refine blk_alloc ?_ _)); refine blk_put (cs := #[.int .i64 0, .slice none 0 0]) ?_ 0 _ rfl; (with_reducible repeat (first | refine blk_drewN ?_ _ | refine blk_drew ?_ | refine blk_alloc ?_ _)); refine blk_far ?_ NB246_245.out _; (with_reducible repeat (first | refine blk_drewN ?_ _ | refine blk_drew ?_ | refine blk_alloc ?_ _)); refine blk_far ?_ NB246_245.out _; (with_reducible repeat (first | refine blk_drewN ?_ _ | refine blk_drew ?_ | refine blk_alloc ?_ _)); exact BK246.out) hb); replace HB := hs HB hb; (try clear hb ho0)) | ((with_reducible refine gate_dst (N := 11) rfl ?_); refine bx 11 #[.int .i64 0, .slice none 0 0] 29 (fun gb251 hg w45 hbox hb => ?_); have BK251 := Aside0.mk hbox; have GW251 := ge HB hg; have GE251 := GW251; obtain ⟨NB220_251, NB251_220⟩ := nb BK220 hg; obtain ⟨NB221_251, NB251_221⟩ := nb BK221 hg; obtain ⟨NB222_251, NB251_222⟩ := nb BK222 hg; obtain ⟨NB245_251, NB251_245⟩ := nb BK245 hg; obtain ⟨NB246_251, NB251_246⟩ := nb BK246 hg; replace HO_6 := rb HO_6 hb; replace HO_7 := rb HO_7 hb; replace HO240 := rb HO240 hb; replace HO244 := rb HO244 hb; replace HO250 := rb HO250 hb; replace BK220 := bb BK220 hb; replace BK221 := bb BK221 hb; replace BK222 := bb BK222 hb; replace BK245 := bb BK245 hb; replace BK246 := bb BK246 hb; replace HB := hs HB hb; clear hb hbox hg; have hnb46 := NB251_220.out; have hnc46 := NB220_251.out; have hnb47 := NB251_221.out; have hnc47 := NB221_251.out; have hnb48 := NB251_222.out; have hnc48 := NB222_251.out; have hnb49 := NB251_245.out; have hnc49 := NB245_251.out; have hnb50 := NB251_246.out; have hnc50 := NB246_251.out; have hcz51_0 : w45.cell? ⟨gb251, 0, none⟩ = some (.int .i64 0) := (blk_cell BK251.out 0).trans rfl; have hcz51_1 : w45.cell? ⟨gb251, 1, none⟩ = some (.slice none 0 0) := (blk_cell BK251.out 1).trans rfl; have hfz51_0 := blk_frozen BK251.out 0; have hfz51_1 := blk_frozen BK251.out 1; obtain ⟨Ao52, co52, eo52⟩ := Kd.R_slice HO250.out; subst eo52))
    go_loopg [12] k1 (fun kq v12 w' => ∃ (x12_2 : Int) (x223000_2 : Int) (x246001_2 : List Int) (x247001_2 : List Int) (x252001_2 : List Int) (u246001 : Value) (u247001 : Value) (u252001 : Value), v12 = .int .i64 x12_2 ∧ Aside0 (spec_l01Times.l1 kq x12_2 t237 x246001_2 t241 x247001_2 t247 x252001_2 = some (r1, r2, r3)) ∧ Aside0 (kq ≤ k1) ∧ Aside0 (Kd.R (Kd.int .i64) 2 w' w.heap.size (fun k_ => some k_ ≠ (u247001 : Value).ownBlock ∧ some k_ ≠ (u252001 : Value).ownBlock) u246001 x246001_2) ∧ Aside0 (Kd.R (Kd.int .i64) 2 w' w.heap.size (fun k_ => some k_ ≠ (u246001 : Value).ownBlock ∧ some k_ ≠ (u252001 : Value).ownBlock) u247001 x247001_2) ∧ Aside0 (Kd.R (Kd.int .i64) 2 w' w.heap.size (fun k_ => some k_ ≠ (u246001 : Value).ownBlock ∧ some k_ ≠ (u247001 : Value).ownBlock) u252001 x252001_2) ∧ Aside0 (w'.heap[gb220]? = some (.cells #[.int .i64 a0_0, (.slice A0_1 l0_1.length c0_1)] 29 (0, 0))) ∧ Aside0 (w'.heap[gb221]? = some (.cells #[.int .i64 a1_0, (.slice A1_1 l1_1.length c1_1)] 29 (0, 0))) ∧ Aside0 (w'.heap[gb222]? = some (.cells #[.int .i64 x223000_2, (.slice none 0 0)] 29 (0, 0))) ∧ Aside0 (w'.heap[gb245]? = some (.cells #[.int .i64 t237, u246001] 29 (0, 0))) ∧ Aside0 (w'.heap[gb246]? = some (.cells #[.int .i64 t241, u247001] 29 (0, 0))) ∧ Aside0 (w'.heap[gb251]? = some (.cells #[.int .i64 t247, u252001] 29 (0, 0))) ∧ Aside0 (Below w.heap.size w w'))
    case atStart => exact ⟨(0), (0), (t238), (t242), (t248), (.slice Ao35 t238.length co35), (.slice Ao38 t242.length co38), (.slice Ao52 t248.length co52), (by first | rfl | (simp; done) | (simp [*]; done)), H', ⟨Nat.le_refl _⟩, ⟨by (with_reducible repeat (first | apply Kd.R_alloc | apply Kd.R_drewN | apply Kd.R_drew)); exact Kd.R_mono (Kd.R_far (p := ⟨gb251, 1, none⟩) (Kd.R_far (p := ⟨gb251, 0, none⟩) (Kd.R_types HO240.out BK251.out (by decide)) (fun _ hk => hk.2) (.int .i64 t247)) (fun _ hk => hk.2) (.slice Ao52 t248.length co52)) (fun _ hk => ⟨hk.1.1.1, hk.1.2⟩)⟩, ⟨by (with_reducible repeat (first | apply Kd.R_alloc | apply Kd.R_drewN | apply Kd.R_drew)); exact Kd.R_mono (Kd.R_far (p := ⟨gb251, 1, none⟩) (Kd.R_far (p := ⟨gb251, 0, none⟩) (Kd.R_types HO244.out BK251.out (by decide)) (fun _ hk => hk.2) (.int .i64 t247)) (fun _ hk => hk.2) (.slice Ao52 t248.length co52)) (fun _ hk => ⟨hk.1.1.1, hk.1.2⟩)⟩, ⟨by (with_reducible repeat (first | apply Kd.R_alloc | apply Kd.R_drewN | apply Kd.R_drew)); exact Kd.R_mono (Kd.R_far (p := ⟨gb251, 1, none⟩) (Kd.R_far (p := ⟨gb251, 0, none⟩) (Kd.R_types HO250.out BK251.out (by decide)) (fun _ hk => hk.2) (.int .i64 t247)) (fun _ hk => hk.2) (.slice Ao52 t248.length co52)) (fun _ hk => ⟨hk.1.1.2, hk.1.2⟩)⟩, ⟨bf BK220⟩, ⟨bf BK221⟩, ⟨bf BK222⟩, ⟨bf BK245⟩, ⟨bf BK246⟩, ⟨by (with_reducible repeat (first | refine blk_drewN ?_ _ | refine blk_drew ?_ | refine blk_alloc ?_ _)); refine blk_put (cs := #[.int .i64 t247, .slice none 0 0]) ?_ 1 _ rfl; (with_reducible repeat (first | refine blk_drewN ?_ _ | refine blk_drew ?_ | refine blk_alloc ?_ _)); refine blk_put (cs := #[.int .i64 0, .slice none 0 0]) ?_ 0 _ rfl; (with_reducible repeat (first | refine blk_drewN ?_ _ | refine blk_drew ?_ | refine blk_alloc ?_ _)); exact BK251.out⟩, ⟨bks HB.out⟩⟩
    case round =>
     clear H'
     try clear c1; try clear p2; try clear c4; try clear c5; try clear c14; try clear c17; try clear c40; try clear c41; try clear c42; try clear c46; try clear c47; try clear c48; try clear c49; try clear c50; try clear hcz43_0; try clear hcz43_1; try clear hcz51_0; try clear hcz51_1; try clear hfz43_0; try clear hfz43_1; try clear hfz51_0; try clear hfz51_1
     obtain ⟨x12_2, x223000_2, x246001_2, x247001_2, x252001_2, u246001, u247001, u252001, rfl, HA, HK2, HO_246001, HO_247001, HO_252001, BK220, BK221, BK222, BK245, BK246, BK251, HB⟩ := hrel
     cases gk with
     | zero => exact absurd HA.out (by simp [spec_l01Times.l1])
     | succ k2 =>
      have H := HA.out
      clear HA
      simp only [spec_l01Times.l1] at H
      by_cases c53 : x12_2 < (x252001_2.length : Int)
      ·rw [if_pos c53] at H
       have c53b0 : decide (x12_2 < (x252001_2.length : Int)) = true := decide_eq_true c53
       clear c53
       by_cases c54 : 0 ≤ x12_2
       rotate_left
       ·rw [if_neg c54] at H; exact absurd H (by simp)
       rw [if_pos c54] at H
       have c54b0 : decide (0 ≤ x12_2) = true := decide_eq_true c54
       clear c54
       by_cases c55 : x12_2 < (x247001_2.length : Int)
       rotate_left
       ·rw [if_neg c55] at H; exact absurd H (by simp)
       rw [if_pos c55] at H
       have c55b0 : decide (x12_2 < (x247001_2.length : Int)) = true := decide_eq_true c55
       clear c55
       replace H := Option.bind_eq_some_iff.mp H
       obtain ⟨t253, A560, H⟩ := H
       try dsimp only at H
       have A56 := Aside0.mk A560
       clear A560
       by_cases c57 : t253 = true
       ·subst c57
        have H1 : (if x12_2 < (x246001_2.length : Int) then (spec_l01Times.l1 k2 (wrap64 (x12_2 + 1)) t237 x246001_2 t241 x247001_2 t247 (x252001_2.set (x12_2 : Int).toNat (wrap64 ((wrap64 ((rd x247001_2 x12_2) * 100000)) + (rd x246001_2 x12_2))))) else (none)) = some (r1, r2, r3) := by rw [if_pos rfl] at H; exact H
        clear H
        have H := H1
        clear H1
        by_cases c58 : x12_2 < (x246001_2.length : Int)
        rotate_left
        ·rw [if_neg c58] at H; exact absurd H (by simp)
        rw [if_pos c58] at H
        have c58b0 : decide (x12_2 < (x246001_2.length : Int)) = true := decide_eq_true c58
        clear c58
        obtain ⟨y256, hy256⟩ : ∃ y_ : List Int, y_ = (x252001_2.set (x12_2 : Int).toNat (wrap64 ((wrap64 ((rd x247001_2 x12_2) * 100000)) + (rd x246001_2 x12_2)))) := ⟨_, rfl⟩
        replace H : (spec_l01Times.l1 k2 (wrap64 (x12_2 + 1)) t237 x246001_2 t241 x247001_2 t247 y256) = some (r1, r2, r3) := by first | (rw [hy256]; with_reducible exact H) | (have H2_ := (Option.bind_some _ _).symm.trans H; rw [hy256]; with_reducible exact H2_) | (have H2_ := (Option.bind_some _ _).symm.trans H; with_reducible exact H2_) | with_reducible exact H | (rw [hy256]; exact H) | exact H
        have Ny256 := Aside0.mk hy256
        clear hy256
        have H' := Aside0.mk H
        clear H
        have hnb60 := NB251_220.out
        have hnc60 := NB220_251.out
        have hnb61 := NB251_221.out
        have hnc61 := NB221_251.out
        have hnb62 := NB251_222.out
        have hnc62 := NB222_251.out
        have hnb63 := NB251_245.out
        have hnc63 := NB245_251.out
        have hnb64 := NB251_246.out
        have hnc64 := NB246_251.out
        have hcz65_0 : wr.cell? ⟨gb251, 0, none⟩ = some (.int .i64 t247) := (blk_cell BK251.out 0).trans rfl
        have hcz65_1 : wr.cell? ⟨gb251, 1, none⟩ = some (u252001) := (blk_cell BK251.out 1).trans rfl
        have hfz65_0 := blk_frozen BK251.out 0
        have hfz65_1 := blk_frozen BK251.out 1
        obtain ⟨Ao66, co66, eo66⟩ := Kd.R_slice HO_252001.out
        subst eo66
        have hnb67 := NB246_220.out
        have hnc67 := NB220_246.out
        have hnb68 := NB246_221.out
        have hnc68 := NB221_246.out
        have hnb69 := NB246_222.out
        have hnc69 := NB222_246.out
        have hnb70 := NB246_245.out
        have hnc70 := NB245_246.out
        have hcz71_0 : wr.cell? ⟨gb246, 0, none⟩ = some (.int .i64 t241) := (blk_cell BK246.out 0).trans rfl
        have hcz71_1 : wr.cell? ⟨gb246, 1, none⟩ = some (u247001) := (blk_cell BK246.out 1).trans rfl
        have hfz71_0 := blk_frozen BK246.out 0
        have hfz71_1 := blk_frozen BK246.out 1
        obtain ⟨Ao72, co72, eo72⟩ := Kd.R_slice HO_247001.out
        subst eo72
        have p252 : 0 ≤ (x12_2 : Int) := of_decide_eq_true (by first | (with_reducible assumption) | assumption)
        have q252 : x12_2 < (x247001_2.length : Int) := of_decide_eq_true (by first | (with_reducible assumption) | assumption)
        obtain ⟨ad252, e252, hx252_0⟩ := Kd.at_int (Kd.R_reads' HO_247001.out).2.2 x12_2 p252 q252
        cases e252
        replace p252 := eq_true p252
        replace q252 := eq_true q252
        try go_wp2_with (first | ((with_reducible refine gate_callee (f := 124) rfl ?_); refine gl (some 61) Try.func124 #[.int .i64 (rd x247001_2 x12_2), .int .i64 (-10000000000000), .int .i64 10000000000000] ?_; (with_reducible refine (spec_l01In.calls (rd x247001_2 x12_2) (-10000000000000) 10000000000000 true _ A56.out).mono ?_); rintro e w' ⟨rfl, ⟨nd, rfl⟩⟩; refine ⟨_, rfl, ?_⟩; (try (rw [drewN_self wr]; generalize hq_ : World.drewN wr _ = wr; have n0_ : Aside0 (Kd.R (Kd.int .i64) 2 wr w.heap.size (fun k_ => some k_ ≠ (.slice (some ad252) x247001_2.length co72 : Value).ownBlock ∧ some k_ ≠ (.slice Ao66 x252001_2.length co66 : Value).ownBlock) u246001 x246001_2) := ⟨by rw [← hq_]; exact (rk HO_246001.out)⟩; have n1_ : Aside0 (Kd.R (Kd.int .i64) 2 wr w.heap.size (fun k_ => some k_ ≠ (u246001 : Value).ownBlock ∧ some k_ ≠ (.slice Ao66 x252001_2.length co66 : Value).ownBlock) (.slice (some ad252) x247001_2.length co72) x247001_2) := ⟨by rw [← hq_]; exact (rk HO_247001.out)⟩; have n2_ : Aside0 (Kd.R (Kd.int .i64) 2 wr w.heap.size (fun k_ => some k_ ≠ (u246001 : Value).ownBlock ∧ some k_ ≠ (.slice (some ad252) x247001_2.length co72 : Value).ownBlock) (.slice Ao66 x252001_2.length co66) x252001_2) := ⟨by rw [← hq_]; exact (rk HO_252001.out)⟩; have n3_ : Aside0 (wr.heap[gb220]? = some (.cells #[.int .i64 a0_0, .slice A0_1 l0_1.length c0_1] 29 (0, 0))) := ⟨by rw [← hq_]; exact (pk BK220.out)⟩; have n4_ : Aside0 (wr.heap[gb221]? = some (.cells #[.int .i64 a1_0, .slice A1_1 l1_1.length c1_1] 29 (0, 0))) := ⟨by rw [← hq_]; exact (pk BK221.out)⟩; have n5_ : Aside0 (wr.heap[gb222]? = some (.cells #[.int .i64 x223000_2, .slice none 0 0] 29 (0, 0))) := ⟨by rw [← hq_]; exact (pk BK222.out)⟩; have n6_ : Aside0 (wr.heap[gb245]? = some (.cells #[.int .i64 t237, u246001] 29 (0, 0))) := ⟨by rw [← hq_]; exact (pk BK245.out)⟩; have n7_ : Aside0 (wr.heap[gb246]? = some (.cells #[.int .i64 t241, .slice (some ad252) x247001_2.length co72] 29 (0, 0))) := ⟨by rw [← hq_]; exact (pk BK246.out)⟩; have n8_ : Aside0 (wr.heap[gb251]? = some (.cells #[.int .i64 t247, .slice Ao66 x252001_2.length co66] 29 (0, 0))) := ⟨by rw [← hq_]; exact (pk BK251.out)⟩; have n9_ : Aside0 (Below w.heap.size w wr) := ⟨by rw [← hq_]; exact (bks HB.out)⟩; clear HO_246001 HO_247001 HO_252001 BK220 BK221 BK222 BK245 BK246 BK251 HB hq_; have HO_246001 := n0_; have HO_247001 := n1_; have HO_252001 := n2_; have BK220 := n3_; have BK221 := n4_; have BK222 := n5_; have BK245 := n6_; have BK246 := n7_; have BK251 := n8_; have HB := n9_; clear n0_ n1_ n2_ n3_ n4_ n5_ n6_ n7_ n8_ n9_))))
        replace HO_246001 := rd0 HO_246001
        replace HO_247001 := rd0 HO_247001
        replace HO_252001 := rd0 HO_252001
        replace BK220 := bd BK220
        replace BK221 := bd BK221
        replace BK222 := bd BK222
        replace BK245 := bd BK245
        replace BK246 := bd BK246
        replace BK251 := bd BK251
        replace HB := hd0 HB
        have p254 : 0 ≤ (x12_2 : Int) := of_decide_eq_true (by first | (with_reducible assumption) | assumption)
        have q254 : x12_2 < (x247001_2.length : Int) := of_decide_eq_true (by first | (with_reducible assumption) | assumption)
        obtain ⟨ad254, e254, hx254_0⟩ := Kd.at_int (Kd.R_reads' HO_247001.out).2.2 x12_2 p254 q254
        obtain rfl : ad252 = ad254 := (by injection e254)
        replace p254 := eq_true p254
        replace q254 := eq_true q254
        obtain ⟨Ao74, co74, eo74⟩ := Kd.R_slice HO_246001.out
        (first | subst eo74 | (injection eo74 with f1_ f2_ f3_; have f4_ := f1_.symm; have f5_ := f3_.symm; clear f1_ f2_ f3_; subst f4_; subst f5_))
        have p255 : 0 ≤ (x12_2 : Int) := of_decide_eq_true (by first | (with_reducible assumption) | assumption)
        have q255 : x12_2 < (x246001_2.length : Int) := of_decide_eq_true (by first | (with_reducible assumption) | assumption)
        obtain ⟨ad255, e255, hx255_0⟩ := Kd.at_int (Kd.R_reads' HO_246001.out).2.2 x12_2 p255 q255
        cases e255
        replace p255 := eq_true p255
        replace q255 := eq_true q255
        have p59 : 0 ≤ (x12_2 : Int) := of_decide_eq_true (by first | (with_reducible assumption) | assumption)
        have q59 : (x12_2 : Int) < ((x252001_2.length : Int) : Int) := of_decide_eq_true (by first | (with_reducible assumption) | assumption)
        obtain ⟨go59, co59, eo59, gb59, gl59, cl59, HG59⟩ := Kd.R_form HO_252001.out (by omega)
        (first | cases eo59 | (injection eo59 with ea_ en_ ec_; (first | subst ea_ | (injection ea_ with ea_; subst ea_)); subst ec_; clear en_))
        have GB59 := Aside0.mk gb59
        have GG59 := Aside0.mk HG59
        clear gb59 gl59 HG59
        obtain ⟨hx59_0, hf59_0⟩ := Kd.R_celln 0 HO_252001.out (x12_2 : Int) p59 q59
        replace p59 := eq_true p59
        replace q59 := eq_true q59
        have HP75 := Kd.R_putn HO_252001.out (x12_2 : Int) (wrap64 ((wrap64 ((rd x247001_2 x12_2) * 100000)) + (rd x246001_2 x12_2)))
        rw [← Ny256.out] at HP75
        have HQ75 := Aside0.mk HP75
        clear HP75
        refine start_ (n := 17) (S := fun w' => w'.cell? ⟨gb251, 0, none⟩ = some (.int .i64 t247) ∧ w'.cell? ⟨gb251, 1, none⟩ = some (.slice (some ⟨go59, 0, none⟩) x252001_2.length co66) ∧ w'.cell? ⟨gb246, 0, none⟩ = some (.int .i64 t241) ∧ w'.cell? ⟨gb246, 1, none⟩ = some (.slice (some ad252) x247001_2.length co72) ∧ w'.cell? ⟨gb245, 0, none⟩ = some (.int .i64 t237) ∧ w'.cell? ⟨gb245, 1, none⟩ = some (.slice (some ad255) x246001_2.length co74) ∧ w'.cell? (ad252.add (x12_2).toNat) = some (.int .i64 (rd x247001_2 x12_2)) ∧ w'.cell? (ad255.add (x12_2).toNat) = some (.int .i64 (rd x246001_2 x12_2))) (ds := [16]) #[false, false, false, false, false, false, false, false, false, false, false, false, false, false, false, false, false] (by kernel_rfl) rfl rfl ⟨(blk_cell BK251.out 0).trans rfl, (blk_cell BK251.out 1).trans rfl, (blk_cell BK246.out 0).trans rfl, (blk_cell BK246.out 1).trans rfl, (blk_cell BK245.out 0).trans rfl, (blk_cell BK245.out 1).trans rfl, hx254_0, hx255_0⟩ (fun hHeld => ?_); refine with_tabW spec_l01Times.tab14 spec_l01Times.bits14 (fun HT_ HW_ => ?_)
        generalize wr.drew = w73 at HO_246001 HO_247001 HO_252001 BK220 BK221 BK222 BK245 BK246 BK251 HB GG59 HQ75 hf59_0 hx254_0 hx255_0 hx59_0 hHeld ⊢
        refine pu 0 (some 64) HT_ ?_
        refine pu 2 (some 66) HT_ ?_
        refine pu 3 (some 67) HT_ ?_
        refine pu 5 (some 69) HT_ ?_
        refine pu 9 (some 73) HT_ ?_
        refine pu 11 (some 75) HT_ ?_
        refine tk 1 (some 65) HT_ HW_ hHeld ?_ (hy := by rintro w' ⟨s0, s1, s2, s3, s4, s5, s6, s7⟩; go_simp; with_reducible rfl)
        refine tk 4 (some 68) HT_ HW_ hHeld ?_ (hy := by rintro w' ⟨s0, s1, s2, s3, s4, s5, s6, s7⟩; go_simp; with_reducible rfl)
        refine pu 6 (some 70) HT_ ?_
        refine tk 7 (some 71) HT_ HW_ hHeld ?_ (hy := by rintro w' ⟨s0, s1, s2, s3, s4, s5, s6, s7⟩; go_simp; with_reducible rfl)
        refine pu 8 (some 72) HT_ ?_
        refine tk 10 (some 74) HT_ HW_ hHeld ?_ (hy := by rintro w' ⟨s0, s1, s2, s3, s4, s5, s6, s7⟩; go_simp; with_reducible rfl)
        refine pu 12 (some 76) HT_ ?_
        refine tk 13 (some 77) HT_ HW_ hHeld ?_ (hy := by rintro w' ⟨s0, s1, s2, s3, s4, s5, s6, s7⟩; go_simp; with_reducible rfl)
        refine pu 14 (some 78) HT_ ?_
        refine pu 15 (some 79) HT_ ?_
        refine la 16 none HT_ (fun K hK => ?_)
        refine skip_ (w1 := ?_) (by rfl) rfl ?_ ?_
        rotate_left
        ·go_simp
         rfl
        refine hK.out _ _ ?_
        clear hK K
        refine done_ (done_of HT_.out (by kernel_rfl)) ?_
        try go_wp2
        go_roundg k2
        case measure => have := HK1.out; have := HK2.out; omega
        case rel => exact ⟨(wrap64 (x12_2 + 1)), (x223000_2), (x246001_2), (x247001_2), (y256), (.slice (some ad255) x246001_2.length co74), (.slice (some ad252) x247001_2.length co72), (.slice (some ⟨go59, 0, none⟩) x252001_2.length co66), (by first | rfl | (simp; done) | (simp [*]; done)), H', ⟨by have := HK1.out; have := HK2.out; omega⟩, ⟨by (with_reducible repeat (first | apply Kd.R_alloc | apply Kd.R_drewN | apply Kd.R_drew)); exact Kd.R_mono (Kd.R_far (p := ⟨go59, (x12_2 : Int).toNat, none⟩) (Kd.R_mono HO_246001.out (fun k_ hk => (⟨hk, fun e_ => hk.2 (by rw [e_]; rfl)⟩ : _ ∧ k_ ≠ go59))) (fun _ hk => hk.2) (.int .i64 (wrap64 ((wrap64 ((rd x247001_2 x12_2) * 100000)) + (rd x246001_2 x12_2))))) (fun _ hk => ⟨hk.1.1, hk.1.2⟩)⟩, ⟨by (with_reducible repeat (first | apply Kd.R_alloc | apply Kd.R_drewN | apply Kd.R_drew)); exact Kd.R_mono (Kd.R_far (p := ⟨go59, (x12_2 : Int).toNat, none⟩) (Kd.R_mono HO_247001.out (fun k_ hk => (⟨hk, fun e_ => hk.2 (by rw [e_]; rfl)⟩ : _ ∧ k_ ≠ go59))) (fun _ hk => hk.2) (.int .i64 (wrap64 ((wrap64 ((rd x247001_2 x12_2) * 100000)) + (rd x246001_2 x12_2))))) (fun _ hk => ⟨hk.1.1, hk.1.2⟩)⟩, ⟨by (with_reducible repeat (first | apply Kd.R_alloc | apply Kd.R_drewN | apply Kd.R_drew)); exact HQ75.out⟩, ⟨by (with_reducible repeat (first | refine blk_drewN ?_ _ | refine blk_drew ?_ | refine blk_alloc ?_ _)); refine blk_far ?_ (by have h_ := Kd.R_ne HO_252001.out BK220.out (by decide); intro e_; exact h_ (by rw [e_]; rfl)) _; (with_reducible repeat (first | refine blk_drewN ?_ _ | refine blk_drew ?_ | refine blk_alloc ?_ _)); exact BK220.out⟩, ⟨by (with_reducible repeat (first | refine blk_drewN ?_ _ | refine blk_drew ?_ | refine blk_alloc ?_ _)); refine blk_far ?_ (by have h_ := Kd.R_ne HO_252001.out BK221.out (by decide); intro e_; exact h_ (by rw [e_]; rfl)) _; (with_reducible repeat (first | refine blk_drewN ?_ _ | refine blk_drew ?_ | refine blk_alloc ?_ _)); exact BK221.out⟩, ⟨by (with_reducible repeat (first | refine blk_drewN ?_ _ | refine blk_drew ?_ | refine blk_alloc ?_ _)); refine blk_far ?_ (by have h_ := Kd.R_ne HO_252001.out BK222.out (by decide); intro e_; exact h_ (by rw [e_]; rfl)) _; (with_reducible repeat (first | refine blk_drewN ?_ _ | refine blk_drew ?_ | refine blk_alloc ?_ _)); exact BK222.out⟩, ⟨by (with_reducible repeat (first | refine blk_drewN ?_ _ | refine blk_drew ?_ | refine blk_alloc ?_ _)); refine blk_far ?_ (by have h_ := Kd.R_ne HO_252001.out BK245.out (by decide); intro e_; exact h_ (by rw [e_]; rfl)) _; (with_reducible repeat (first | refine blk_drewN ?_ _ | refine blk_drew ?_ | refine blk_alloc ?_ _)); exact BK245.out⟩, ⟨by (with_reducible repeat (first | refine blk_drewN ?_ _ | refine blk_drew ?_ | refine blk_alloc ?_ _)); refine blk_far ?_ (by have h_ := Kd.R_ne HO_252001.out BK246.out (by decide); intro e_; exact h_ (by rw [e_]; rfl)) _; (with_reducible repeat (first | refine blk_drewN ?_ _ | refine blk_drew ?_ | refine blk_alloc ?_ _)); exact BK246.out⟩, ⟨by (with_reducible repeat (first | refine blk_drewN ?_ _ | refine blk_drew ?_ | refine blk_alloc ?_ _)); refine blk_far ?_ (by have h_ := Kd.R_ne HO_252001.out BK251.out (by decide); intro e_; exact h_ (by rw [e_]; rfl)) _; (with_reducible repeat (first | refine blk_drewN ?_ _ | refine blk_drew ?_ | refine blk_alloc ?_ _)); exact BK251.out⟩, ⟨by repeat (first | (with_reducible first | exact HB.out | apply below_alloc | apply pw_below_drewN | apply below_drew1 | refine below_set ?_ GB59.out | refine below_set ?_ GE220.out | refine below_set ?_ GE221.out | refine below_set ?_ GE222.out | refine below_set ?_ GE245.out | refine below_set ?_ GE246.out | refine below_set ?_ GE251.out) | exact HB.out)⟩⟩
       ·replace c57 := Bool.eq_false_iff.mpr c57
        subst c57
        have H1 : (some (t247, x252001_2, false)) = some (r1, r2, r3) := by rw [if_neg (show ¬ (false = true) by decide)] at H; exact H
        clear H
        have H := H1
        clear H1
        simp only [Option.some.injEq, Prod.mk.injEq] at H
        obtain ⟨rfl, rfl, rfl⟩ := H
        have hnb76 := NB251_220.out
        have hnc76 := NB220_251.out
        have hnb77 := NB251_221.out
        have hnc77 := NB221_251.out
        have hnb78 := NB251_222.out
        have hnc78 := NB222_251.out
        have hnb79 := NB251_245.out
        have hnc79 := NB245_251.out
        have hnb80 := NB251_246.out
        have hnc80 := NB246_251.out
        have hcz81_0 : wr.cell? ⟨gb251, 0, none⟩ = some (.int .i64 t247) := (blk_cell BK251.out 0).trans rfl
        have hcz81_1 : wr.cell? ⟨gb251, 1, none⟩ = some (u252001) := (blk_cell BK251.out 1).trans rfl
        have hfz81_0 := blk_frozen BK251.out 0
        have hfz81_1 := blk_frozen BK251.out 1
        obtain ⟨Ao82, co82, eo82⟩ := Kd.R_slice HO_252001.out
        subst eo82
        have hnb83 := NB246_220.out
        have hnc83 := NB220_246.out
        have hnb84 := NB246_221.out
        have hnc84 := NB221_246.out
        have hnb85 := NB246_222.out
        have hnc85 := NB222_246.out
        have hnb86 := NB246_245.out
        have hnc86 := NB245_246.out
        have hcz87_0 : wr.cell? ⟨gb246, 0, none⟩ = some (.int .i64 t241) := (blk_cell BK246.out 0).trans rfl
        have hcz87_1 : wr.cell? ⟨gb246, 1, none⟩ = some (u247001) := (blk_cell BK246.out 1).trans rfl
        have hfz87_0 := blk_frozen BK246.out 0
        have hfz87_1 := blk_frozen BK246.out 1
        obtain ⟨Ao88, co88, eo88⟩ := Kd.R_slice HO_247001.out
        subst eo88
        have p252 : 0 ≤ (x12_2 : Int) := of_decide_eq_true (by first | (with_reducible assumption) | assumption)
        have q252 : x12_2 < (x247001_2.length : Int) := of_decide_eq_true (by first | (with_reducible assumption) | assumption)
        obtain ⟨ad252, e252, hx252_0⟩ := Kd.at_int (Kd.R_reads' HO_247001.out).2.2 x12_2 p252 q252
        cases e252
        replace p252 := eq_true p252
        replace q252 := eq_true q252
        go_wp2_with (first | ((with_reducible refine gate_callee (f := 124) rfl ?_); refine gl (some 61) Try.func124 #[.int .i64 (rd x247001_2 x12_2), .int .i64 (-10000000000000), .int .i64 10000000000000] ?_; (with_reducible refine (spec_l01In.calls (rd x247001_2 x12_2) (-10000000000000) 10000000000000 false _ A56.out).mono ?_); rintro e w' ⟨rfl, ⟨nd, rfl⟩⟩; refine ⟨_, rfl, ?_⟩; (try (rw [drewN_self wr]; generalize hq_ : World.drewN wr _ = wr; have n0_ : Aside0 (Kd.R (Kd.int .i64) 2 wr w.heap.size (fun k_ => some k_ ≠ (.slice (some ad252) x247001_2.length co88 : Value).ownBlock ∧ some k_ ≠ (.slice Ao82 x252001_2.length co82 : Value).ownBlock) u246001 x246001_2) := ⟨by rw [← hq_]; exact (rk HO_246001.out)⟩; have n1_ : Aside0 (Kd.R (Kd.int .i64) 2 wr w.heap.size (fun k_ => some k_ ≠ (u246001 : Value).ownBlock ∧ some k_ ≠ (.slice Ao82 x252001_2.length co82 : Value).ownBlock) (.slice (some ad252) x247001_2.length co88) x247001_2) := ⟨by rw [← hq_]; exact (rk HO_247001.out)⟩; have n2_ : Aside0 (Kd.R (Kd.int .i64) 2 wr w.heap.size (fun k_ => some k_ ≠ (u246001 : Value).ownBlock ∧ some k_ ≠ (.slice (some ad252) x247001_2.length co88 : Value).ownBlock) (.slice Ao82 x252001_2.length co82) x252001_2) := ⟨by rw [← hq_]; exact (rk HO_252001.out)⟩; have n3_ : Aside0 (wr.heap[gb220]? = some (.cells #[.int .i64 a0_0, .slice A0_1 l0_1.length c0_1] 29 (0, 0))) := ⟨by rw [← hq_]; exact (pk BK220.out)⟩; have n4_ : Aside0 (wr.heap[gb221]? = some (.cells #[.int .i64 a1_0, .slice A1_1 l1_1.length c1_1] 29 (0, 0))) := ⟨by rw [← hq_]; exact (pk BK221.out)⟩; have n5_ : Aside0 (wr.heap[gb222]? = some (.cells #[.int .i64 x223000_2, .slice none 0 0] 29 (0, 0))) := ⟨by rw [← hq_]; exact (pk BK222.out)⟩; have n6_ : Aside0 (wr.heap[gb245]? = some (.cells #[.int .i64 t237, u246001] 29 (0, 0))) := ⟨by rw [← hq_]; exact (pk BK245.out)⟩; have n7_ : Aside0 (wr.heap[gb246]? = some (.cells #[.int .i64 t241, .slice (some ad252) x247001_2.length co88] 29 (0, 0))) := ⟨by rw [← hq_]; exact (pk BK246.out)⟩; have n8_ : Aside0 (wr.heap[gb251]? = some (.cells #[.int .i64 t247, .slice Ao82 x252001_2.length co82] 29 (0, 0))) := ⟨by rw [← hq_]; exact (pk BK251.out)⟩; have n9_ : Aside0 (Below w.heap.size w wr) := ⟨by rw [← hq_]; exact (bks HB.out)⟩; clear HO_246001 HO_247001 HO_252001 BK220 BK221 BK222 BK245 BK246 BK251 HB hq_; have HO_246001 := n0_; have HO_247001 := n1_; have HO_252001 := n2_; have BK220 := n3_; have BK221 := n4_; have BK222 := n5_; have BK245 := n6_; have BK246 := n7_; have BK251 := n8_; have HB := n9_; clear n0_ n1_ n2_ n3_ n4_ n5_ n6_ n7_ n8_ n9_)); have hnb89 := NB222_220.out; have hnc89 := NB220_222.out; have hnb90 := NB222_221.out; have hnc90 := NB221_222.out; have hnb91 := NB222_245.out; have hnc91 := NB245_222.out; have hcz92_0 : wr.cell? ⟨gb222, 0, none⟩ = some (.int .i64 x223000_2) := (blk_cell BK222.out 0).trans rfl; have hcz92_1 : wr.cell? ⟨gb222, 1, none⟩ = some (.slice none 0 0) := (blk_cell BK222.out 1).trans rfl; have hfz92_0 := blk_frozen BK222.out 0; have hfz92_1 := blk_frozen BK222.out 1; have hcygb251_0 : wr.cell? ⟨gb251, 0, none⟩ = some (.int .i64 t247) := (blk_cell BK251.out 0).trans rfl; have hfygb251_0 := blk_frozen BK251.out 0; have hcygb251_1 : wr.cell? ⟨gb251, 1, none⟩ = some (.slice Ao82 x252001_2.length co82) := (blk_cell BK251.out 1).trans rfl; have hfygb251_1 := blk_frozen BK251.out 1))
        refine bodyPost_ret (results_ct rfl _ _ gb222 29 #[.int .i64 t247, .slice Ao82 x252001_2.length co82] (0, 0) _ rfl (by (with_reducible repeat (first | refine blk_drewN ?_ _ | refine blk_drew ?_ | refine blk_alloc ?_ _)); refine blk_put (cs := #[.int .i64 t247, .slice none 0 0]) ?_ 1 _ rfl; (with_reducible repeat (first | refine blk_drewN ?_ _ | refine blk_drew ?_ | refine blk_alloc ?_ _)); refine blk_put (cs := #[.int .i64 x223000_2, .slice none 0 0]) ?_ 0 _ rfl; (with_reducible repeat (first | refine blk_drewN ?_ _ | refine blk_drew ?_ | refine blk_alloc ?_ _)); exact BK222.out) Try.underlying29 rfl (by kernel_rfl)) rfl ?_
        exact ⟨_, by first | rfl | (simp [errW_none, errW_some] <;> rfl) | (simp [*, errW_none, errW_some] <;> rfl), by (with_reducible repeat (first | apply Kd.R_alloc | apply Kd.R_drewN | apply Kd.R_drew)); exact Kd.R_mono (Kd.R_far (p := ⟨gb222, 1, none⟩) (Kd.R_far (p := ⟨gb222, 0, none⟩) (Kd.R_types HO_252001.out BK222.out (by decide)) (fun _ hk => hk.2) (.int .i64 t247)) (fun _ hk => hk.2) (.slice Ao82 x252001_2.length co82)) (fun _ hk => trivial), bks HB.out⟩
      ·rw [if_neg c53] at H
       have c53b0 : decide (x12_2 < (x252001_2.length : Int)) = false := decide_eq_false c53
       clear c53
       replace H := Option.bind_eq_some_iff.mp H
       obtain ⟨t257, A930, H⟩ := H
       try dsimp only at H
       have A93 := Aside0.mk A930
       clear A930
       simp only [Option.some.injEq, Prod.mk.injEq] at H
       obtain ⟨rfl, rfl, rfl⟩ := H
       have hnb94 := NB251_220.out
       have hnc94 := NB220_251.out
       have hnb95 := NB251_221.out
       have hnc95 := NB221_251.out
       have hnb96 := NB251_222.out
       have hnc96 := NB222_251.out
       have hnb97 := NB251_245.out
       have hnc97 := NB245_251.out
       have hnb98 := NB251_246.out
       have hnc98 := NB246_251.out
       have hcz99_0 : wr.cell? ⟨gb251, 0, none⟩ = some (.int .i64 t247) := (blk_cell BK251.out 0).trans rfl
       have hcz99_1 : wr.cell? ⟨gb251, 1, none⟩ = some (u252001) := (blk_cell BK251.out 1).trans rfl
       have hfz99_0 := blk_frozen BK251.out 0
       have hfz99_1 := blk_frozen BK251.out 1
       obtain ⟨Ao100, co100, eo100⟩ := Kd.R_slice HO_252001.out
       subst eo100
       try go_wp2
       replace HO_246001 := rd0 HO_246001
       replace HO_247001 := rd0 HO_247001
       replace HO_252001 := rd0 HO_252001
       replace BK220 := bd BK220
       replace BK221 := bd BK221
       replace BK222 := bd BK222
       replace BK245 := bd BK245
       replace BK246 := bd BK246
       replace BK251 := bd BK251
       replace HB := hd0 HB
       refine start_ (n := 5) (S := fun w' => w'.cell? ⟨gb251, 0, none⟩ = some (.int .i64 t247) ∧ w'.cell? ⟨gb251, 1, none⟩ = some (.slice Ao100 x252001_2.length co100)) (ds := []) #[false, false, false, false, false] (by kernel_rfl) rfl rfl ⟨(blk_cell BK251.out 0).trans rfl, (blk_cell BK251.out 1).trans rfl⟩ (fun hHeld => ?_)
       generalize wr.drew = w101 at HO_246001 HO_247001 HO_252001 BK220 BK221 BK222 BK245 BK246 BK251 HB hHeld ⊢
       refine take_ (i := 0) (N := some 80) (v := ?_) (a' := ?_) #[true, false, false, false, false] rfl rfl (by kernel_rfl) (fun _ _ _ h => h) (Or.inl ⟨by rfl, ?_⟩) hHeld ?_ ?_
       rotate_left
       ·rintro w' ⟨s0, s1⟩
        go_simp
        with_reducible rfl
       rotate_left
       ·simp only [Act.put, List.setIfInBounds_toArray, List.set_cons_zero, List.set_cons_succ, i64_w, i32_w]
        rfl
       refine take_ (i := 1) (N := some 81) (v := ?_) (a' := ?_) #[true, true, false, false, false] rfl rfl (by kernel_rfl) (fun _ _ _ h => h) (Or.inl ⟨by rfl, ?_⟩) hHeld ?_ ?_
       rotate_left
       ·rintro w' ⟨s0, s1⟩
        go_simp
        with_reducible rfl
       rotate_left
       ·simp only [Act.put, List.setIfInBounds_toArray, List.set_cons_zero, List.set_cons_succ, i64_w, i32_w]
        rfl
       refine one_ (i := 2) (N := some 82) #[true, true, true, false, false] rfl rfl (by kernel_rfl) (by decide) (fun K hK => ?_)
       refine gs Try.func173 #[.agg #[.int .i64 t247, .slice Ao100 x252001_2.length co100]] ?_
       with_reducible refine (spec_l01Fits.calls k2 t247 _ _ x252001_2 t257 _ ?side1 ?side2 A93.out).mono ?_
       (case side1 => repeat (first | exact (Kd.R_reads' HO_252001.out).2.2 | (with_reducible refine Kd.C_alloc ?_ _) | (with_reducible refine Kd.C_drewN ?_ _) | (with_reducible refine Kd.C_drew ?_)))
       (case side2 => exact (Kd.R_reads' HO_252001.out).2.1)
       rintro e w102 ⟨rfl, hb⟩
       refine ⟨_, rfl, ?_⟩
       replace HO_246001 := rb HO_246001 hb
       replace HO_247001 := rb HO_247001 hb
       replace HO_252001 := rb HO_252001 hb
       replace BK220 := bb BK220 hb
       replace BK221 := bb BK221 hb
       replace BK222 := bb BK222 hb
       replace BK245 := bb BK245 hb
       replace BK246 := bb BK246 hb
       replace BK251 := bb BK251 hb
       replace HB := hs HB hb
       (try clear hb)
       refine hK.out _ _ ⟨(blk_cell BK251.out 0).trans rfl, (blk_cell BK251.out 1).trans rfl⟩ (fun hHeld => ?_)
       clear hK K
       refine nm ?_
       refine one_ (i := 3) (N := none) #[true, true, true, true, false] rfl rfl (by kernel_rfl) (by decide) (fun K hK => ?_)
       have hs103 : w102.cell? ⟨gb222, 0, none⟩ = some (.int .i64 x223000_2) := (blk_cell BK222.out 0).trans rfl
       have hfs103 := blk_frozen BK222.out 0
       have hns103_0 := NB220_222.out
       have hns103_1 := NB221_222.out
       have hns103_3 := NB245_222.out
       have hns103_4 := NB246_222.out
       have hns103_5 := NB251_222.out
       have hms103_0 := NB222_220.out
       have hms103_1 := NB222_221.out
       have hms103_3 := NB222_245.out
       have hms103_4 := NB222_246.out
       have hms103_5 := NB222_251.out
       have hs104 : w102.cell? ⟨gb222, 1, none⟩ = some (.slice none 0 0) := (blk_cell BK222.out 1).trans rfl
       have hfs104 := blk_frozen BK222.out 1
       have hns104_0 := NB220_222.out
       have hns104_1 := NB221_222.out
       have hns104_3 := NB245_222.out
       have hns104_4 := NB246_222.out
       have hns104_5 := NB251_222.out
       have hms104_0 := NB222_220.out
       have hms104_1 := NB222_221.out
       have hms104_3 := NB222_245.out
       have hms104_4 := NB222_246.out
       have hms104_5 := NB222_251.out
       refine skip_ (w1 := ?_) (by rfl) rfl ?_ ?_
       rotate_left
       ·go_simp
        rfl
       refine hK.out _ _ ⟨((cell_far (p := ⟨gb222, _, none⟩) NB251_222.out _).trans (((cell_far (p := ⟨gb222, _, none⟩) NB251_222.out _).trans (hHeld.1)))), ((cell_far (p := ⟨gb222, _, none⟩) NB251_222.out _).trans (((cell_far (p := ⟨gb222, _, none⟩) NB251_222.out _).trans (hHeld.2))))⟩ (fun hHeld => ?_)
       clear hK K
       refine pure_ (i := 4) (N := some 5) (v := ?_) (a' := ?_) #[true, true, true, true, true] rfl rfl (by kernel_rfl) (fun _ _ _ h => h) (Or.inl ⟨by rfl, ?_⟩) ?_ ?_
       rotate_left
       ·intro w'
        go_simp
        with_reducible rfl
       rotate_left
       ·simp only [Act.put, List.setIfInBounds_toArray, List.set_cons_zero, List.set_cons_succ, i64_w, i32_w]
        rfl
       refine done_ (by kernel_rfl) ?_
       try go_wp2
       refine bodyPost_ret (results_ct rfl _ _ gb222 29 #[.int .i64 t247, .slice Ao100 x252001_2.length co100] (0, 0) _ rfl (by (with_reducible repeat (first | refine blk_drewN ?_ _ | refine blk_drew ?_ | refine blk_alloc ?_ _)); refine blk_put (cs := #[.int .i64 t247, .slice none 0 0]) ?_ 1 _ rfl; (with_reducible repeat (first | refine blk_drewN ?_ _ | refine blk_drew ?_ | refine blk_alloc ?_ _)); refine blk_put (cs := #[.int .i64 x223000_2, .slice none 0 0]) ?_ 0 _ rfl; (with_reducible repeat (first | refine blk_drewN ?_ _ | refine blk_drew ?_ | refine blk_alloc ?_ _)); exact BK222.out) Try.underlying29 rfl (by kernel_rfl)) rfl ?_
       exact ⟨_, by first | rfl | (simp [errW_none, errW_some] <;> rfl) | (simp [*, errW_none, errW_some] <;> rfl), by (with_reducible repeat (first | apply Kd.R_alloc | apply Kd.R_drewN | apply Kd.R_drew)); exact Kd.R_mono (Kd.R_far (p := ⟨gb222, 1, none⟩) (Kd.R_far (p := ⟨gb222, 0, none⟩) (Kd.R_types HO_252001.out BK222.out (by decide)) (fun _ hk => hk.2) (.int .i64 t247)) (fun _ hk => hk.2) (.slice Ao100 x252001_2.length co100)) (fun _ hk => trivial), bks HB.out⟩

end Go.Proofs.Ytdnpkbhapdkikaa.PFnExactActOnCyclo
