-- LAID BY pp.py (a program of this repo): what the kit's print tells of this seat's functions, with contracts by hand
import Derived.Test.YthkdkiifchefhaaZPFnExactCyclotomicUnitx0
import Derived.Test.YthkdkiifchefhaaZPFnExactCyclotomicUnitx1
namespace Go.Proofs.Ythkdkiifchefhaa.PFnExactCyclotomicUnit
open Go.RowKit Go.Proofs.YthkdkiifchefhaaW.PrintWords Go.Proofs.YthkdkiifchefhaaW.PrintLast Go.Proofs.YthkdkiifchefhaaW.PrintMore
attribute [local go_sem] max2_int min2_int max_two min_two max_three min_three max_four min_four   -- for this text's walks alone
set_option linter.unusedVariables false
set_option linter.unusedSimpArgs false

/-! ### spec_l01Cyclotomic: function 124 -/
mutual
def spec_l01Cyclotomic.l0 : Nat → Int → List Int → Int → Option (List Int)
 | 0, _, _, _ => none
 | k + 1, x0, x3, x4 => if x4 < x0 then (if x4 = 0 then (none) else (if (Int.tmod x0 x4) = 0 then ((spec_l01Cyclotomic.f k x4).bind fun t140 => ((spec_l01Quotient.f k x3 t140).bind fun t143 => (spec_l01Cyclotomic.l0 k x0 t143 (wrap64 (x4 + 1))))) else (spec_l01Cyclotomic.l0 k x0 x3 (wrap64 (x4 + 1))))) else (some x3)
def spec_l01Cyclotomic.f : Nat → Int → Option (List Int)
 | 0, _ => none
 | k + 1, a0 => if 0 ≤ (wrap64 (a0 + 1)) then (if (wrap64 (a0 + 1) : Int).toNat ≤ 35184372088832 then ((some (List.replicate (wrap64 (a0 + 1) : Int).toNat 0 : List Int)).bind fun y135 => (if 0 < (y135.length : Int) then (if 0 ≤ a0 then (if a0 < (y135.length : Int) then (spec_l01Cyclotomic.l0 k a0 ((y135.set (0 : Int).toNat (-1)).set (a0 : Int).toNat 1) 1) else (none)) else (none)) else (none))) else (none)) else (none)
end
theorem spec_l01Cyclotomic.mono_l : ∀ k, (∀ y0, LeO (spec_l01Cyclotomic.f k y0) (spec_l01Cyclotomic.f (k + 1) y0)) ∧ (∀ y0 y1 y2, LeO (spec_l01Cyclotomic.l0 k y0 y1 y2) (spec_l01Cyclotomic.l0 (k + 1) y0 y1 y2))
 | 0 => ⟨fun _ r h => by simp [spec_l01Cyclotomic.f] at h, fun _ _ _ r h => by simp [spec_l01Cyclotomic.l0] at h⟩
 | k + 1 => by
  obtain ⟨ih0, ih1⟩ := spec_l01Cyclotomic.mono_l k
  refine ⟨?_, ?_⟩
  ·intro y0
   unfold spec_l01Cyclotomic.f
   repeat' first | (with_reducible first | exact ih0 _ | exact ih1 _ _ _ | exact spec_l01Quotient.mono _ _ _ | exact LeO.refl _ | exact LeO.none _ | refine LeO.ite ?_ ?_ | refine LeO.bind ?_ (fun _ => ?_)) | exact ih0 _ | exact ih1 _ _ _ | exact LeO.none _ | refine LeO.ite ?_ ?_ | refine LeO.bind ?_ (fun _ => ?_)
  ·intro y0 y1 y2
   unfold spec_l01Cyclotomic.l0
   repeat' first | (with_reducible first | exact ih0 _ | exact ih1 _ _ _ | exact spec_l01Quotient.mono _ _ _ | exact LeO.refl _ | exact LeO.none _ | refine LeO.ite ?_ ?_ | refine LeO.bind ?_ (fun _ => ?_)) | exact ih0 _ | exact ih1 _ _ _ | exact LeO.none _ | refine LeO.ite ?_ ?_ | refine LeO.bind ?_ (fun _ => ?_)
theorem spec_l01Cyclotomic.mono : ∀ a0 k, LeO (spec_l01Cyclotomic.f k a0) (spec_l01Cyclotomic.f (k + 1) a0) := by
 intro a0 k
 obtain ⟨ih0, ih1⟩ := spec_l01Cyclotomic.mono_l k
 exact ih0 a0
set_option maxHeartbeats 8000000 in
set_option maxRecDepth 100000 in
theorem spec_l01Cyclotomic.calls (k : Nat) : ∀ (a0 : Int) (r : List Int) (w : World) (h : spec_l01Cyclotomic.f k a0 = some r),
  Calls Try.prog 124 #[.int .i64 a0] w fun e w' => ∃ v0_ : Value, e = .returned (v0_) ∧ Kd.R (Kd.int .i64) 2 w' w.heap.size (fun _ => True) v0_ r ∧ Below w.heap.size w w' := by
 induction k using Nat.strongRecOn with
 | _ k ih =>
 intro a0 r w h
 cases k with
 | zero => exact absurd h (by simp [spec_l01Cyclotomic.f])
 | succ k =>
 simp only [spec_l01Cyclotomic.f] at h
 have HB := Aside0.mk (Below.refl w.heap.size w)
 have H := h
 unfold spec_l01Cyclotomic.f at H
 clear h
 obtain ⟨ji2, hji2⟩ : ∃ j_ : Int, (wrap64 (a0 + 1)) = j_ := ⟨_, rfl⟩
 replace H : (if 0 ≤ (ji2) then (if (ji2 : Int).toNat ≤ 35184372088832 then ((some (List.replicate (ji2 : Int).toNat 0 : List Int)).bind fun y135 => (if 0 < (y135.length : Int) then (if 0 ≤ a0 then (if a0 < (y135.length : Int) then (spec_l01Cyclotomic.l0 k a0 ((y135.set (0 : Int).toNat (-1)).set (a0 : Int).toNat 1) 1) else (none)) else (none)) else (none))) else (none)) else (none)) = some r := by first | (rw [hji2] at H; exact H) | (simp only [hji2] at H ⊢; exact H)
 have hji2w : (IntKind.i64.wrap (a0 + 1)) = ji2 := (i64_w _).trans hji2
 by_cases c3 : 0 ≤ (ji2)
 rotate_left
 ·rw [if_neg c3] at H; exact absurd H (by simp)
 rw [if_pos c3] at H
 have c3b0 := eq_true c3
 have c3b1 : decide (0 ≤ (ji2)) = true := decide_eq_true c3
 clear c3
 by_cases c4 : (ji2 : Int).toNat ≤ 35184372088832
 rotate_left
 ·rw [if_neg c4] at H; exact absurd H (by simp)
 rw [if_pos c4] at H
 have c4b0 := eq_true c4
 have c4b1 : decide ((ji2 : Int).toNat ≤ 35184372088832) = true := decide_eq_true c4
 clear c4
 obtain ⟨y135, hy135⟩ : ∃ y_ : List Int, y_ = (List.replicate (ji2 : Int).toNat 0) := ⟨_, rfl⟩
 replace H : (if 0 < (y135.length : Int) then (if 0 ≤ a0 then (if a0 < (y135.length : Int) then (spec_l01Cyclotomic.l0 k a0 ((y135.set (0 : Int).toNat (-1)).set (a0 : Int).toNat 1) 1) else (none)) else (none)) else (none)) = some r := by first | (rw [hy135]; with_reducible exact H) | (have H2_ := (Option.bind_some _ _).symm.trans H; rw [hy135]; with_reducible exact H2_) | (have H2_ := (Option.bind_some _ _).symm.trans H; with_reducible exact H2_) | with_reducible exact H | (rw [hy135]; exact H) | exact H
 have Ny135 := Aside0.mk hy135
 clear hy135
 by_cases c5 : 0 < (y135.length : Int)
 rotate_left
 ·rw [if_neg c5] at H; exact absurd H (by simp)
 rw [if_pos c5] at H
 have c5b0 : decide (0 < (y135.length : Int)) = true := decide_eq_true c5
 have c5b1 : decide (0 < y135.length) = true := decide_eq_true (by omega)
 clear c5
 obtain ⟨y138, hy138⟩ : ∃ y_ : List Int, y_ = (y135.set (0 : Int).toNat (-1)) := ⟨_, rfl⟩
 replace H : (if 0 ≤ a0 then (if a0 < (y135.length : Int) then (spec_l01Cyclotomic.l0 k a0 (y138.set (a0 : Int).toNat 1) 1) else (none)) else (none)) = some r := by first | (rw [hy138]; with_reducible exact H) | (have H2_ := (Option.bind_some _ _).symm.trans H; rw [hy138]; with_reducible exact H2_) | (have H2_ := (Option.bind_some _ _).symm.trans H; with_reducible exact H2_) | with_reducible exact H | (rw [hy138]; exact H) | exact H
 have Ny138 := Aside0.mk hy138
 clear hy138
 by_cases c7 : 0 ≤ a0
 rotate_left
 ·rw [if_neg c7] at H; exact absurd H (by simp)
 rw [if_pos c7] at H
 have c7b0 : decide (0 ≤ a0) = true := decide_eq_true c7
 clear c7
 by_cases c8 : a0 < (y135.length : Int)
 rotate_left
 ·rw [if_neg c8] at H; exact absurd H (by simp)
 rw [if_pos c8] at H
 have c8b0 : decide (a0 < (y135.length : Int)) = true := decide_eq_true c8
 clear c8
 obtain ⟨y139, hy139⟩ : ∃ y_ : List Int, y_ = (y138.set (a0 : Int).toNat 1) := ⟨_, rfl⟩
 replace H : (spec_l01Cyclotomic.l0 k a0 y139 1) = some r := by first | (rw [hy139]; with_reducible exact H) | (have H2_ := (Option.bind_some _ _).symm.trans H; rw [hy139]; with_reducible exact H2_) | (have H2_ := (Option.bind_some _ _).symm.trans H; with_reducible exact H2_) | with_reducible exact H | (rw [hy139]; exact H) | exact H
 have Ny139 := Aside0.mk hy139
 clear hy139
 have H' := Aside0.mk H
 clear H
 go_enter Try.func124, Try.ntmps124
 go_wp2_with (first | ((with_reducible refine gate_dst (N := 7) rfl ?_); refine Kd.R_make (Kd.int .i64) _ 2 rfl (N := 7) rfl 22 _ _ rfl ji2 rfl rfl Try.underlying22 (.int .i64 0) 8 info2 rfl (by decide) (by omega) 0 (ok := fun _ => True) (okp := fun _ => True) rfl (fun _ hk => hk) trivial (of_decide_eq_true (by first | (with_reducible assumption) | assumption)) (Nat.le_trans (Nat.mul_le_mul_right _ (of_decide_eq_true (by first | (with_reducible assumption) | assumption) : ji2.toNat ≤ 35184372088832)) (by omega)) (Below.refl _ _) (Nat.le_refl _) ?_; intro v136 w10 ho11 hb hg_ hnew_; clear hg_ hnew_; (first | rw [← Ny135.out] at ho11 | (simp only [Int.reduceToNat] at ho11; rw [← Ny135.out] at ho11)); have HO137 := Aside0.mk (Kd.R_lower ho11 (below_size (bk HB.out))); replace HB := hs HB hb; clear hb ho11; have p6 : 0 ≤ (0 : Int) := (by omega); have q6 : (0 : Int) < ((y135.length : Int) : Int) := of_decide_eq_true (by first | (with_reducible assumption) | assumption); have qi6 : (0 < y135.length) = True := eq_true (by omega); obtain ⟨go6, co6, eo6, gb6, gl6, cl6, HG6⟩ := Kd.R_form HO137.out (by omega); (first | cases eo6 | (injection eo6 with ea_ en_ ec_; (first | subst ea_ | (injection ea_ with ea_; subst ea_)); subst ec_; clear en_)); have GB6 := Aside0.mk gb6; have GG6 := Aside0.mk HG6; clear gb6 gl6 HG6; obtain ⟨hx6_0, hf6_0⟩ := Kd.R_celln 0 HO137.out (0 : Int) p6 q6; (try rw [show ((0 : Int)).toNat = 0 from rfl] at hx6_0); (try simp only [Nat.reduceMul, Nat.zero_mul, Nat.zero_add, Nat.reduceAdd] at hx6_0); (try rw [show ((0 : Int)).toNat = 0 from rfl] at hf6_0); (try simp only [Nat.reduceMul, Nat.zero_mul, Nat.zero_add, Nat.reduceAdd] at hf6_0); replace p6 := eq_true p6; replace q6 := eq_true q6; obtain ⟨hy12_, hz12_⟩ := Kd.R_celln 0 HO137.out (0 : Int) (by omega) (of_decide_eq_true (by first | (with_reducible assumption) | assumption)); (try simp only [Int.reduceToNat, Int.toNat_zero, Int.toNat_ofNat, Nat.reduceMul, Nat.zero_mul, Nat.zero_add] at hy12_ hz12_); (try rw [show ((0 : Int)).toNat = 0 from rfl] at hy12_); (try rw [show ((0 : Int)).toNat = 0 from rfl] at hz12_); have HP12 := Kd.R_putg HO137.out (0 : Int) (-1)) | ((with_reducible refine gate_store (t := 2) (p := 9) rfl ?_); refine store_event (t := 2) (p := 9) (v := ?vo_w13) (w1 := (w10.setCell ⟨go6, (0 : Int).toNat, none⟩ (.int .i64 (-1)))) ?hg ?ho ?hn ?hr ?_; (case ho => rfl); (case hg => rfl); (case hn => rfl); (case hr => first | (go_simp; done) | (go_simp; rfl)); intro w13 hw; have hg : w10.grownBy w13 (some go6) := (by rw [hw]; exact HP12.2); have hp_ : Kd.R (Kd.int .i64) 2 w13 w.heap.size (fun _ => True) (.slice (some ⟨go6, 0, none⟩) y135.length co6) y138 := (by rw [hw, Ny138.out]; exact HP12.1); clear HP12; replace HO137 := Aside0.mk hp_; replace HB := Aside0.mk (by rw [hw]; exact below_set (HB.out) GB6.out : Below w.heap.size w w13); clear hg hw hp_; have p9 : 0 ≤ (a0 : Int) := of_decide_eq_true (by first | (with_reducible assumption) | assumption); have q9 : (a0 : Int) < ((y135.length : Int) : Int) := of_decide_eq_true (by first | (with_reducible assumption) | assumption); obtain ⟨hx9_0, hf9_0⟩ := Kd.R_celln 0 HO137.out (a0 : Int) p9 q9; replace p9 := eq_true p9; replace q9 := eq_true q9; obtain ⟨hy14_, hz14_⟩ := Kd.R_celln 0 HO137.out (a0 : Int) (of_decide_eq_true (by first | (with_reducible assumption) | assumption)) (of_decide_eq_true (by first | (with_reducible assumption) | assumption)); have HP14 := Kd.R_putg HO137.out (a0 : Int) 1) | ((with_reducible refine gate_store (t := 2) (p := 12) rfl ?_); refine store_event (t := 2) (p := 12) (v := ?vo_w15) (w1 := (w13.setCell ⟨go6, (a0 : Int).toNat, none⟩ (.int .i64 1))) ?hg ?ho ?hn ?hr ?_; (case ho => rfl); (case hg => rfl); (case hn => rfl); (case hr => first | (go_simp; done) | (go_simp; rfl)); intro w15 hw; have hg : w13.grownBy w15 (some go6) := (by rw [hw]; exact HP14.2); have hp_ : Kd.R (Kd.int .i64) 2 w15 w.heap.size (fun _ => True) (.slice (some ⟨go6, 0, none⟩) y135.length co6) y139 := (by rw [hw, Ny139.out]; exact HP14.1); clear HP14; replace HO137 := Aside0.mk hp_; replace HB := Aside0.mk (by rw [hw]; exact below_set (HB.out) GB6.out : Below w.heap.size w w15); clear hg hw hp_))
 go_loopg [3, 4] k (fun kq v3 v4 w' => ∃ (x3_1 : List Int) (x4_1 : Int), v4 = .int .i64 x4_1 ∧ Aside0 (spec_l01Cyclotomic.l0 kq a0 x3_1 x4_1 = some r) ∧ Aside0 (kq ≤ k) ∧ Aside0 (Kd.R (Kd.int .i64) 2 w' w.heap.size (fun _ => True) v3 x3_1) ∧ Aside0 (Below w.heap.size w w'))
 case atStart => exact ⟨(y139), (1), (by first | rfl | (simp; done) | (simp [*]; done)), H', ⟨Nat.le_refl _⟩, ⟨rk HO137.out⟩, ⟨bk HB.out⟩⟩
 case round =>
  clear H'
  try clear c1; try clear p2; try clear c3; try clear c3b0; try clear c3b1; try clear c4; try clear c4b0; try clear c4b1; try clear c5; try clear c5b0; try clear c5b1; try clear p6; try clear q6; try clear hx6; try clear qi6; try clear hf6; try clear c7; try clear c7b0; try clear c8; try clear c8b0; try clear p9; try clear q9; try clear hx9; try clear hf9; try clear c12; try clear hx6_0; try clear hx9_0; try clear p6; try clear p9; try clear q6; try clear q9
  obtain ⟨x3_1, x4_1, rfl, HA, HK1, HO_3, HB⟩ := hrel
  cases gk with
  | zero => exact absurd HA.out (by simp [spec_l01Cyclotomic.l0])
  | succ k1 =>
   have H := HA.out
   clear HA
   simp only [spec_l01Cyclotomic.l0] at H
   by_cases c16 : x4_1 < a0
   ·rw [if_pos c16] at H
    have c16b0 : decide (x4_1 < a0) = true := decide_eq_true c16
    clear c16
    by_cases c17 : x4_1 = 0
    ·rw [if_pos c17] at H; exact absurd H (by simp)
    rw [if_neg c17] at H
    have c17b0 : (x4_1 == 0) = false := beq_eq_false_iff_ne.mpr c17
    have c17b1 : (x4_1 != 0) = true := bne_iff_ne.mpr c17
    by_cases c18 : (Int.tmod a0 x4_1) = 0
    ·rw [if_pos c18] at H
     have c18b0 : ((Int.tmod a0 x4_1) == 0) = true := beq_iff_eq.mpr c18
     have c18b1 : ((Int.tmod a0 x4_1) != 0) = false := bne_eq_false_iff_eq.mpr c18
     clear c18
     replace H := Option.bind_eq_some_iff.mp H
     obtain ⟨t140, A190, H⟩ := H
     try dsimp only at H
     have A19 := Aside0.mk A190
     clear A190
     replace H := Option.bind_eq_some_iff.mp H
     obtain ⟨t143, A200, H⟩ := H
     try dsimp only at H
     have A20 := Aside0.mk A200
     clear A200
     have H' := Aside0.mk H
     clear H
     go_wp2_with (first | ((with_reducible refine gate_callee (f := 124) rfl ?_); refine gl (some 24) Try.func124 #[.int .i64 x4_1] ?_; (with_reducible refine (ih k1 (by have := HK1.out; omega) x4_1 t140 _ A19.out).mono ?_); rintro e w21 ⟨v141, rfl, ho0, hb⟩; refine ⟨_, rfl, ?_⟩; have HO142 := Aside0.mk (Kd.R_lower (Kd.R_new' ho0 (Kd.R_lt (rk HO_3.out))) (below_size (bk HB.out))); replace HO_3 := re HO_3 ho0 hb; replace HB := hs HB hb; (try clear hb ho0); obtain ⟨Ao22, co22, eo22⟩ := Kd.R_slice HO_3.out; subst eo22; obtain ⟨Ao23, co23, eo23⟩ := Kd.R_slice HO142.out; subst eo23) | ((with_reducible refine gate_callee (f := 128) rfl ?_); refine gl (some 25) Try.func128 #[.slice Ao22 x3_1.length co22, .slice Ao23 t140.length co23] ?_; (with_reducible refine (spec_l01Quotient.calls k1 _ _ x3_1 _ _ t140 t143 _ ?side1 ?side2 ?side3 ?side4 A20.out).mono ?_); (case side1 => repeat (first | exact (Kd.R_reads' HO_3.out).2.2 | (with_reducible refine Kd.C_alloc ?_ _) | (with_reducible refine Kd.C_drewN ?_ _) | (with_reducible refine Kd.C_drew ?_))); (case side2 => exact (Kd.R_reads' HO_3.out).2.1); (case side3 => repeat (first | exact (Kd.R_reads' HO142.out).2.2 | (with_reducible refine Kd.C_alloc ?_ _) | (with_reducible refine Kd.C_drewN ?_ _) | (with_reducible refine Kd.C_drew ?_))); (case side4 => exact (Kd.R_reads' HO142.out).2.1); rintro e w24 ⟨v144, rfl, ho0, hb⟩; refine ⟨_, rfl, ?_⟩; have HO145 := Aside0.mk (Kd.R_lower (Kd.R_new' (Kd.R_new' ho0 (Kd.R_lt (rk HO_3.out))) (Kd.R_lt (rk HO142.out))) (below_size (bk HB.out))); replace HO_3 := re HO_3 ho0 hb; replace HO142 := re HO142 ho0 hb; replace HB := hs HB hb; (try clear hb ho0)))
     go_roundg k1
     case measure => have := HK1.out; omega
     case rel => exact ⟨(t143), (wrap64 (x4_1 + 1)), (by first | rfl | (simp; done) | (simp [*]; done)), H', ⟨by have := HK1.out; omega⟩, ⟨rk (Kd.R_mono HO145.out (fun _ hk => trivial))⟩, ⟨bk HB.out⟩⟩
    ·rw [if_neg c18] at H
     have c18b0 : ((Int.tmod a0 x4_1) == 0) = false := beq_eq_false_iff_ne.mpr c18
     have c18b1 : ((Int.tmod a0 x4_1) != 0) = true := bne_iff_ne.mpr c18
     have H' := Aside0.mk H
     clear H
     go_wp2
     go_roundg k1
     case measure => have := HK1.out; omega
     case rel => exact ⟨(x3_1), (wrap64 (x4_1 + 1)), (by first | rfl | (simp; done) | (simp [*]; done)), H', ⟨by have := HK1.out; omega⟩, ⟨rk HO_3.out⟩, ⟨bk HB.out⟩⟩
   ·rw [if_neg c16] at H
    have c16b0 : decide (x4_1 < a0) = false := decide_eq_false c16
    clear c16
    obtain rfl := Option.some.inj H
    go_wp2
    go_ret
    exact ⟨_, by first | rfl | (simp [errW_none, errW_some] <;> rfl) | (simp only [← hji2]; first | rfl | (simp [errW_none, errW_some] <;> rfl)) | (simp [*, errW_none, errW_some] <;> rfl), rk HO_3.out, bk HB.out⟩
/-! ### spec_l01Reduce: function 114 -/
mutual
def spec_l01Reduce.l0 : Nat → Int → List Int → List Int → Int → Int → Option (Int × List Int)
 | 0, _, _, _, _, _ => none
 | k + 1, x0, x5, x6, x7, x8 => if x8 ≥ x7 then (if 0 ≤ x8 then (if x8 < (x6.length : Int) then (spec_l01Reduce.l1 k x0 x5 x6 x7 x8 (rd x6 x8) 0) else (none)) else (none)) else ((spec_l01Zero.f k x0).bind fun bt157 => (spec_l01Reduce.l2 k x6 x7 0 bt157.1 bt157.2))
def spec_l01Reduce.l1 : Nat → Int → List Int → List Int → Int → Int → Int → Int → Option (Int × List Int)
 | 0, _, _, _, _, _, _, _ => none
 | k + 1, x0, x5, x6, x7, x8, x9, x10 => if x10 ≤ x7 then (if 0 ≤ (wrap64 ((wrap64 (x8 - x7)) + x10)) then (if (wrap64 ((wrap64 (x8 - x7)) + x10)) < (x6.length : Int) then (if 0 ≤ x10 then (if x10 < (x5.length : Int) then (spec_l01Reduce.l1 k x0 x5 (x6.set ((wrap64 ((wrap64 (x8 - x7)) + x10)) : Int).toNat (wrap64 ((rd x6 (wrap64 ((wrap64 (x8 - x7)) + x10))) - (wrap64 (x9 * (rd x5 x10)))))) x7 x8 x9 (wrap64 (x10 + 1))) else (none)) else (none)) else (none)) else (none)) else (spec_l01Reduce.l0 k x0 x5 x6 x7 (wrap64 (x8 - 1)))
def spec_l01Reduce.l2 : Nat → List Int → Int → Int → Int → List Int → Option (Int × List Int)
 | 0, _, _, _, _, _ => none
 | k + 1, x6, x7, x12, x162000, x162001 => if x12 < x7 then (if x12 < (x6.length : Int) then (if 0 ≤ x12 then (if x12 < (x162001.length : Int) then (spec_l01Reduce.l2 k x6 x7 (wrap64 (x12 + 1)) x162000 (x162001.set (x12 : Int).toNat (rd x6 x12))) else (none)) else (none)) else (some (x162000, x162001))) else (some (x162000, x162001))
end
def spec_l01Reduce.f (k : Nat) (a0 : Int) (l1 : List Int) : Option (Int × List Int) := (spec_l01Cyclotomic.f k a0).bind fun t147 => ((spec_l01Own.f l1).bind fun t150 => (spec_l01Reduce.l0 k a0 t147 t150 (wrap64 ((t147.length : Int) - 1)) (wrap64 ((t150.length : Int) - 1))))
theorem spec_l01Reduce.mono_l : ∀ k, (∀ y0 y1 y2 y3 y4, LeO (spec_l01Reduce.l0 k y0 y1 y2 y3 y4) (spec_l01Reduce.l0 (k + 1) y0 y1 y2 y3 y4)) ∧ (∀ y0 y1 y2 y3 y4 y5 y6, LeO (spec_l01Reduce.l1 k y0 y1 y2 y3 y4 y5 y6) (spec_l01Reduce.l1 (k + 1) y0 y1 y2 y3 y4 y5 y6)) ∧ (∀ y0 y1 y2 y3 y4, LeO (spec_l01Reduce.l2 k y0 y1 y2 y3 y4) (spec_l01Reduce.l2 (k + 1) y0 y1 y2 y3 y4))
 | 0 => ⟨fun _ _ _ _ _ r h => by simp [spec_l01Reduce.l0] at h, fun _ _ _ _ _ _ _ r h => by simp [spec_l01Reduce.l1] at h, fun _ _ _ _ _ r h => by simp [spec_l01Reduce.l2] at h⟩
 | k + 1 => by
  obtain ⟨ih0, ih1, ih2⟩ := spec_l01Reduce.mono_l k
  refine ⟨?_, ?_, ?_⟩
  ·intro y0 y1 y2 y3 y4
   unfold spec_l01Reduce.l0
   repeat' first | (with_reducible first | exact ih0 _ _ _ _ _ | exact ih1 _ _ _ _ _ _ _ | exact ih2 _ _ _ _ _ | exact spec_l01Cyclotomic.mono _ _ | exact spec_l01Zero.mono _ _ | exact LeO.refl _ | exact LeO.none _ | refine LeO.ite ?_ ?_ | refine LeO.bind ?_ (fun _ => ?_)) | exact ih0 _ _ _ _ _ | exact ih1 _ _ _ _ _ _ _ | exact ih2 _ _ _ _ _ | exact LeO.none _ | refine LeO.ite ?_ ?_ | refine LeO.bind ?_ (fun _ => ?_)
  ·intro y0 y1 y2 y3 y4 y5 y6
   unfold spec_l01Reduce.l1
   repeat' first | (with_reducible first | exact ih0 _ _ _ _ _ | exact ih1 _ _ _ _ _ _ _ | exact ih2 _ _ _ _ _ | exact spec_l01Cyclotomic.mono _ _ | exact spec_l01Zero.mono _ _ | exact LeO.refl _ | exact LeO.none _ | refine LeO.ite ?_ ?_ | refine LeO.bind ?_ (fun _ => ?_)) | exact ih0 _ _ _ _ _ | exact ih1 _ _ _ _ _ _ _ | exact ih2 _ _ _ _ _ | exact LeO.none _ | refine LeO.ite ?_ ?_ | refine LeO.bind ?_ (fun _ => ?_)
  ·intro y0 y1 y2 y3 y4
   unfold spec_l01Reduce.l2
   repeat' first | (with_reducible first | exact ih0 _ _ _ _ _ | exact ih1 _ _ _ _ _ _ _ | exact ih2 _ _ _ _ _ | exact spec_l01Cyclotomic.mono _ _ | exact spec_l01Zero.mono _ _ | exact LeO.refl _ | exact LeO.none _ | refine LeO.ite ?_ ?_ | refine LeO.bind ?_ (fun _ => ?_)) | exact ih0 _ _ _ _ _ | exact ih1 _ _ _ _ _ _ _ | exact ih2 _ _ _ _ _ | exact LeO.none _ | refine LeO.ite ?_ ?_ | refine LeO.bind ?_ (fun _ => ?_)
theorem spec_l01Reduce.mono : ∀ a0 a1 k, LeO (spec_l01Reduce.f k a0 a1) (spec_l01Reduce.f (k + 1) a0 a1) := by
 intro a0 a1 k
 obtain ⟨ih0, ih1, ih2⟩ := spec_l01Reduce.mono_l k
 unfold spec_l01Reduce.f
 repeat' first | (with_reducible first | exact ih0 _ _ _ _ _ | exact ih1 _ _ _ _ _ _ _ | exact ih2 _ _ _ _ _ | exact spec_l01Cyclotomic.mono _ _ | exact spec_l01Zero.mono _ _ | exact LeO.refl _ | exact LeO.none _ | refine LeO.ite ?_ ?_ | refine LeO.bind ?_ (fun _ => ?_)) | exact ih0 _ _ _ _ _ | exact ih1 _ _ _ _ _ _ _ | exact ih2 _ _ _ _ _ | exact LeO.none _ | refine LeO.ite ?_ ?_ | refine LeO.bind ?_ (fun _ => ?_)
def spec_l01Reduce.T10 : Bool × List (List Nat × List Nat) := (true, [([], []), ([], []), ([], []), ([1, 2], [1, 2]), ([], []), ([3, 4], [3, 4]), ([], []), ([], []), ([], []), ([7, 8], [7, 8]), ([], []), ([9, 10], [9, 10]), ([6, 11], [6, 11]), ([12], [12]), ([], []), ([], []), ([], []), ([15, 16], [15, 16]), ([17], [17]), ([14, 18], [14, 18]), ([13, 19], [13, 19]), ([0, 5, 0, 1, 2, 3, 4, 5, 6, 7, 8, 9, 10, 11, 12, 13, 14, 15, 16, 17, 18, 19, 20], [0, 5]), ([21, 20, 0, 1, 2, 3, 4, 5, 6, 7, 8, 9, 10, 11, 12, 13, 14, 15, 16, 17, 18, 19, 20], [20, 21])])
def spec_l01Reduce.B10 : List Nat := [0, 0, 0, 6, 0, 30, 0, 0, 0, 384, 0, 1920, 4032, 8128, 0, 0, 0, 98304, 229376, 507904, 1048512, 2097151, 4194303]
theorem spec_l01Reduce.tab10 : rtab .any (opsOf Try.f114 10) = spec_l01Reduce.T10 := by kernel_rfl
theorem spec_l01Reduce.bits10 : waitsOk spec_l01Reduce.T10.2 spec_l01Reduce.B10 = true := by kernel_rfl
def spec_l01Reduce.T15 : Bool × List (List Nat × List Nat) := (true, [([], []), ([0], [0]), ([], []), ([], []), ([], []), ([3, 4], [3, 4]), ([5], [5]), ([1, 2, 0, 1, 2, 3, 4, 5, 6], [1, 2]), ([7, 6, 0, 1, 2, 3, 4, 5, 6], [6, 7])])
def spec_l01Reduce.B15 : List Nat := [0, 1, 0, 0, 0, 24, 56, 127, 255]
theorem spec_l01Reduce.tab15 : rtab .any (opsOf Try.f114 15) = spec_l01Reduce.T15 := by kernel_rfl
theorem spec_l01Reduce.bits15 : waitsOk spec_l01Reduce.T15.2 spec_l01Reduce.B15 = true := by kernel_rfl
set_option maxHeartbeats 8000000 in
set_option maxRecDepth 100000 in
theorem spec_l01Reduce.calls (k : Nat) (a0 : Int) (A1 : Option Addr) (c1 : Nat) (l1 : List Int) (r1 : Int) (r2 : List Int) (w : World) (hr1 : Kd.C (Kd.int .i64) w A1 l1.length l1) (hc1 : l1.length ≤ c1) (h : spec_l01Reduce.f k a0 l1 = some (r1, r2)) :
  Calls Try.prog 114 #[.int .i64 a0, .slice A1 l1.length c1] w fun e w' => ∃ v1_ : Value, e = .returned (.agg #[.int .i64 r1, v1_]) ∧ Kd.R (Kd.int .i64) 2 w' w.heap.size (fun _ => True) v1_ r2 ∧ Below w.heap.size w w' := by
 have hu51 := Try.underlying51
 have HR1 := Aside0.mk hr1
 have HC1 := Aside0.mk hc1
 clear hr1 hc1
 have HB := Aside0.mk (Below.refl w.heap.size w)
 have H := h
 unfold spec_l01Reduce.f at H
 clear h
 replace H := Option.bind_eq_some_iff.mp H
 obtain ⟨t147, A30, H⟩ := H
 try dsimp only at H
 have A3 := Aside0.mk A30
 clear A30
 replace H := Option.bind_eq_some_iff.mp H
 obtain ⟨t150, A40, H⟩ := H
 try dsimp only at H
 have A4 := Aside0.mk A40
 clear A40
 have H' := Aside0.mk H
 clear H
 go_enter Try.func114, Try.ntmps114
 go_wp2_with (first | ((with_reducible refine gate_dst (N := 4) rfl ?_); (try (refine gate_guard (by rfl) ?_; dsimp only)); refine bx 4 #[.int .i64 0, .slice none 0 0] 51 (fun gb146 hg w5 hbox hb => ?_); have BK146 := Aside0.mk hbox; have GW146 := ge HB hg; have GE146 := GW146; replace HB := hs HB hb; clear hb hbox hg) | ((with_reducible refine gate_callee (f := 124) rfl ?_); refine gl (some 14) Try.func124 #[.int .i64 a0] ?_; (with_reducible refine (spec_l01Cyclotomic.calls k a0 t147 _ A3.out).mono ?_); rintro e w6 ⟨v148, rfl, ho0, hb⟩; refine ⟨_, rfl, ?_⟩; have HO149 := Aside0.mk (Kd.R_lower ho0 (below_size (bks HB.out))); replace BK146 := bb BK146 hb; replace HB := hs HB hb; (try clear hb ho0)) | ((with_reducible refine gate_callee (f := 113) rfl ?_); refine gl (some 16) Try.func113 #[.slice A1 l1.length c1] ?_; (with_reducible refine (spec_l01Own.calls _ _ l1 t150 _ ?side1 ?side2 A4.out).mono ?_); (case side1 => repeat (first | exact (Kd.C_below HR1.out HB.out) | (with_reducible refine Kd.C_alloc ?_ _) | (with_reducible refine Kd.C_drewN ?_ _) | (with_reducible refine Kd.C_drew ?_))); (case side2 => exact HC1.out); rintro e w7 ⟨v151, rfl, ho0, hb⟩; refine ⟨_, rfl, ?_⟩; have HO152 := Aside0.mk (Kd.R_lower (Kd.R_new' ho0 (Kd.R_lt (rk HO149.out))) (below_size (bks HB.out))); replace HO149 := re HO149 ho0 hb; replace BK146 := bb BK146 hb; replace HB := hs HB hb; (try clear hb ho0); obtain ⟨Ao8, co8, eo8⟩ := Kd.R_slice HO149.out; subst eo8; obtain ⟨Ao9, co9, eo9⟩ := Kd.R_slice HO152.out; subst eo9))
 go_loopg [8] k (fun kq v8 w' => ∃ (x6_1 : List Int) (x8_1 : Int), v8 = .int .i64 x8_1 ∧ Aside0 (spec_l01Reduce.l0 kq a0 t147 x6_1 (wrap64 ((t147.length : Int) - 1)) x8_1 = some (r1, r2)) ∧ Aside0 (kq ≤ k) ∧ Aside0 (Kd.R (Kd.int .i64) 2 w' w.heap.size (fun k_ => some k_ ≠ ((.slice Ao9 t150.length co9) : Value).ownBlock) (.slice Ao8 t147.length co8) t147) ∧ Aside0 (Kd.R (Kd.int .i64) 2 w' w.heap.size (fun k_ => some k_ ≠ ((.slice Ao8 t147.length co8) : Value).ownBlock) (.slice Ao9 t150.length co9) x6_1) ∧ Aside0 (w'.heap[gb146]? = some (.cells #[.int .i64 0, (.slice none 0 0)] 51 (0, 0))) ∧ Aside0 (Below w.heap.size w w'))
 case atStart => exact ⟨(t150), (wrap64 ((t150.length : Int) - 1)), (by first | rfl | (simp; done) | (simp [*]; done)), H', ⟨Nat.le_refl _⟩, ⟨rk (Kd.R_mono HO149.out (fun _ hk => hk.2))⟩, ⟨rk (Kd.R_mono HO152.out (fun _ hk => hk.2))⟩, ⟨pk BK146.out⟩, ⟨bks HB.out⟩⟩
 case round =>
  clear H'
  try clear c1; try clear p2; try clear p6
  obtain ⟨x6_1, x8_1, rfl, HA, HK1, HO_5, HO_6, BK146, HB⟩ := hrel
  have hl6_1 := (Kd.R_reads' HO_6.out).1
  rw [hl6_1] at HO_6
  (try simp only [hl6_1])
  (try simp only [hl6_1] at BK146)
  (try simp only [hl6_1] at HO_5)
  cases gk with
  | zero => exact absurd HA.out (by simp [spec_l01Reduce.l0])
  | succ k1 =>
   have H := HA.out
   clear HA
   simp only [spec_l01Reduce.l0] at H
   by_cases c10 : x8_1 ≥ (wrap64 ((t147.length : Int) - 1))
   ·rw [if_pos c10] at H
    have c10b0 : decide ((wrap64 ((t147.length : Int) - 1)) ≤ x8_1) = true := decide_eq_true c10
    clear c10
    by_cases c11 : 0 ≤ x8_1
    rotate_left
    ·rw [if_neg c11] at H; exact absurd H (by simp)
    rw [if_pos c11] at H
    have c11b0 : decide (0 ≤ x8_1) = true := decide_eq_true c11
    clear c11
    by_cases c12 : x8_1 < (x6_1.length : Int)
    rotate_left
    ·rw [if_neg c12] at H; exact absurd H (by simp)
    rw [if_pos c12] at H
    have c12b0 : decide (x8_1 < (x6_1.length : Int)) = true := decide_eq_true c12
    clear c12
    have H' := Aside0.mk H
    clear H
    have p153 : 0 ≤ (x8_1 : Int) := of_decide_eq_true (by first | (with_reducible assumption) | assumption)
    have q153 : x8_1 < (x6_1.length : Int) := of_decide_eq_true (by first | (with_reducible assumption) | assumption)
    try (obtain ⟨Aw_, cw_, ew_⟩ := Kd.R_slice HO_6.out; subst ew_)
    obtain ⟨ad153, e153, hx153_0⟩ := Kd.at_int (Kd.R_reads' HO_6.out).2.2 x8_1 p153 q153
    cases e153
    replace p153 := eq_true p153
    replace q153 := eq_true q153
    go_wp2
    go_loopg [10] k1 (fun kq v10 w' => ∃ (x6_2 : List Int) (x10_2 : Int), v10 = .int .i64 x10_2 ∧ Aside0 (spec_l01Reduce.l1 kq a0 t147 x6_2 (wrap64 ((t147.length : Int) - 1)) x8_1 (rd x6_1 x8_1) x10_2 = some (r1, r2)) ∧ Aside0 (kq ≤ k1) ∧ Aside0 (Kd.R (Kd.int .i64) 2 w' w.heap.size (fun k_ => some k_ ≠ ((.slice (some ad153) x6_1.length co9) : Value).ownBlock) (.slice Ao8 t147.length co8) t147) ∧ Aside0 (Kd.R (Kd.int .i64) 2 w' w.heap.size (fun k_ => some k_ ≠ ((.slice Ao8 t147.length co8) : Value).ownBlock) (.slice (some ad153) x6_1.length co9) x6_2) ∧ Aside0 (w'.heap[gb146]? = some (.cells #[.int .i64 0, (.slice none 0 0)] 51 (0, 0))) ∧ Aside0 (Below w.heap.size w w'))
    case atStart => exact ⟨(x6_1), (0), (by first | rfl | (simp; done) | (simp [*]; done)), H', ⟨Nat.le_refl _⟩, ⟨by (try simp only [hl6_1]); (with_reducible repeat (first | apply Kd.R_alloc | apply Kd.R_drewN | apply Kd.R_drew)); exact HO_5.out⟩, ⟨by (try simp only [hl6_1]); (with_reducible repeat (first | apply Kd.R_alloc | apply Kd.R_drewN | apply Kd.R_drew)); exact HO_6.out⟩, ⟨by (try simp only [hl6_1]); (with_reducible repeat (first | refine blk_drewN ?_ _ | refine blk_drew ?_ | refine blk_alloc ?_ _)); exact BK146.out⟩, ⟨bks HB.out⟩⟩
    case round =>
     clear H'
     try clear c1; try clear p1; try clear q1; try clear hx1; try clear p2; try clear p6; try clear c10; try clear c10b0; try clear c11; try clear c11b0; try clear c12; try clear c12b0; try clear hx153_0; try clear p153; try clear p2; try clear p6; try clear q153
     obtain ⟨x6_2, x10_2, rfl, HA, HK2, HO_5, HO_6, BK146, HB⟩ := hrel
     have hl6_2 := (Kd.R_reads' HO_6.out).1
     rw [hl6_2] at HO_6
     (try simp only [hl6_2])
     (try simp only [hl6_2] at BK146)
     (try simp only [hl6_2] at HO_5)
     cases gk with
     | zero => exact absurd HA.out (by simp [spec_l01Reduce.l1])
     | succ k2 =>
      have H := HA.out
      clear HA
      simp only [spec_l01Reduce.l1] at H
      by_cases c13 : x10_2 ≤ (wrap64 ((t147.length : Int) - 1))
      ·rw [if_pos c13] at H
       have c13b0 : decide (x10_2 ≤ (wrap64 ((t147.length : Int) - 1))) = true := decide_eq_true c13
       clear c13
       obtain ⟨ji14, hji14⟩ : ∃ j_ : Int, (wrap64 ((wrap64 (x8_1 - (wrap64 ((t147.length : Int) - 1)))) + x10_2)) = j_ := ⟨_, rfl⟩
       replace H : (if 0 ≤ (ji14) then (if (ji14) < (x6_2.length : Int) then (if 0 ≤ x10_2 then (if x10_2 < (t147.length : Int) then (spec_l01Reduce.l1 k2 a0 t147 (x6_2.set ((ji14) : Int).toNat (wrap64 ((rd x6_2 (ji14)) - (wrap64 ((rd x6_1 x8_1) * (rd t147 x10_2)))))) (wrap64 ((t147.length : Int) - 1)) x8_1 (rd x6_1 x8_1) (wrap64 (x10_2 + 1))) else (none)) else (none)) else (none)) else (none)) = some (r1, r2) := by first | (rw [hji14] at H; exact H) | (simp only [hji14] at H ⊢; exact H)
       have hji14w : (IntKind.i64.wrap ((wrap64 (x8_1 - (wrap64 ((t147.length : Int) - 1)))) + x10_2)) = ji14 := (i64_w _).trans hji14
       by_cases c15 : 0 ≤ (ji14)
       rotate_left
       ·rw [if_neg c15] at H; exact absurd H (by simp)
       rw [if_pos c15] at H
       have c15b0 : decide (0 ≤ (ji14)) = true := decide_eq_true c15
       clear c15
       by_cases c16 : (ji14) < (x6_2.length : Int)
       rotate_left
       ·rw [if_neg c16] at H; exact absurd H (by simp)
       rw [if_pos c16] at H
       have c16b0 : decide ((ji14) < (x6_2.length : Int)) = true := decide_eq_true c16
       clear c16
       by_cases c17 : 0 ≤ x10_2
       rotate_left
       ·rw [if_neg c17] at H; exact absurd H (by simp)
       rw [if_pos c17] at H
       have c17b0 : decide (0 ≤ x10_2) = true := decide_eq_true c17
       clear c17
       by_cases c18 : x10_2 < (t147.length : Int)
       rotate_left
       ·rw [if_neg c18] at H; exact absurd H (by simp)
       rw [if_pos c18] at H
       have c18b0 : decide (x10_2 < (t147.length : Int)) = true := decide_eq_true c18
       clear c18
       obtain ⟨y156, hy156⟩ : ∃ y_ : List Int, y_ = (x6_2.set ((ji14) : Int).toNat (wrap64 ((rd x6_2 (ji14)) - (wrap64 ((rd x6_1 x8_1) * (rd t147 x10_2)))))) := ⟨_, rfl⟩
       replace H : (spec_l01Reduce.l1 k2 a0 t147 y156 (wrap64 ((t147.length : Int) - 1)) x8_1 (rd x6_1 x8_1) (wrap64 (x10_2 + 1))) = some (r1, r2) := by first | (rw [hy156]; with_reducible exact H) | (have H2_ := (Option.bind_some _ _).symm.trans H; rw [hy156]; with_reducible exact H2_) | (have H2_ := (Option.bind_some _ _).symm.trans H; with_reducible exact H2_) | with_reducible exact H | (rw [hy156]; exact H) | exact H
       have Ny156 := Aside0.mk hy156
       clear hy156
       have H' := Aside0.mk H
       clear H
       try go_wp2
       replace HO_5 := rd0 HO_5
       replace HO_6 := rd0 HO_6
       replace BK146 := bd BK146
       replace HB := hd0 HB
       have p154 : 0 ≤ ((ji14) : Int) := of_decide_eq_true (by first | (with_reducible assumption) | assumption)
       have q154 : (ji14) < (x6_2.length : Int) := of_decide_eq_true (by first | (with_reducible assumption) | assumption)
       try (obtain ⟨Aw_, cw_, ew_⟩ := Kd.R_slice HO_6.out; subst ew_)
       obtain ⟨ad154, e154, hx154_0⟩ := Kd.at_int (Kd.R_reads' HO_6.out).2.2 (ji14) p154 q154
       obtain rfl : ad153 = ad154 := (by injection e154)
       replace p154 := eq_true p154
       replace q154 := eq_true q154
       have p155 : 0 ≤ (x10_2 : Int) := of_decide_eq_true (by first | (with_reducible assumption) | assumption)
       have q155 : x10_2 < (t147.length : Int) := of_decide_eq_true (by first | (with_reducible assumption) | assumption)
       try (obtain ⟨Aw_, cw_, ew_⟩ := Kd.R_slice HO_5.out; subst ew_)
       obtain ⟨ad155, e155, hx155_0⟩ := Kd.at_int (Kd.R_reads' HO_5.out).2.2 x10_2 p155 q155
       cases e155
       replace p155 := eq_true p155
       replace q155 := eq_true q155
       have p19 : 0 ≤ ((ji14) : Int) := of_decide_eq_true (by first | (with_reducible assumption) | assumption)
       have q19 : ((ji14) : Int) < ((x6_2.length : Int) : Int) := of_decide_eq_true (by first | (with_reducible assumption) | assumption)
       obtain ⟨go19, co19, eo19, gb19, gl19, cl19, HG19⟩ := Kd.R_form HO_6.out (by omega)
       (first | cases eo19 | (injection eo19 with ea_ en_ ec_; (first | subst ea_ | (injection ea_ with ea_; subst ea_)); subst ec_; clear en_))
       try simp only [add_plain] at *
       have GB19 := Aside0.mk gb19
       have GG19 := Aside0.mk HG19
       clear gb19 gl19 HG19
       (first | simp only [add_plain] at hx153_0 | skip)
       (first | simp only [add_plain] at hx154_0 | skip)
       obtain ⟨hx19_0, hf19_0⟩ := Kd.R_celln 0 HO_6.out ((ji14) : Int) p19 q19
       replace p19 := eq_true p19
       replace q19 := eq_true q19
       have HP21 := Kd.R_putn HO_6.out ((ji14) : Int) (wrap64 ((rd x6_2 (ji14)) - (wrap64 ((rd x6_1 x8_1) * (rd t147 x10_2)))))
       rw [← Ny156.out] at HP21
       have HQ21 := Aside0.mk HP21
       clear HP21
       refine start_ (n := 23) (S := fun w' => w'.cell? ⟨go19, ((ji14)).toNat, none⟩ = some (.int .i64 (rd x6_2 (ji14))) ∧ w'.cell? (ad155.add (x10_2).toNat) = some (.int .i64 (rd t147 x10_2))) (ds := [22]) #[false, false, false, false, false, false, false, false, false, false, false, false, false, false, false, false, false, false, false, false, false, false, false] (by kernel_rfl) rfl rfl ⟨hx154_0, hx155_0⟩ (fun hHeld => ?_); refine with_tabW spec_l01Reduce.tab10 spec_l01Reduce.bits10 (fun HT_ HW_ => ?_)
       generalize wr.drew = w20 at HO_5 HO_6 BK146 HB GG19 HQ21 hf19_0 hx153_0 hx154_0 hx155_0 hx19_0 hHeld ⊢
       refine pu 0 (some 37) HT_ ?_
       refine pu 1 (some 38) HT_ ?_
       refine pu 2 (some 39) HT_ ?_
       refine pu 3 (some 40) HT_ ?_
       refine pu 4 (some 41) HT_ ?_
       refine pu 5 (some 42) HT_ ?_
       refine pu 6 (some 43) HT_ ?_
       refine pu 7 (some 44) HT_ ?_
       refine pu 8 (some 45) HT_ ?_
       refine pu 9 (some 46) HT_ ?_
       refine pu 10 (some 47) HT_ ?_
       refine pu 11 (some 48) HT_ ?_
       refine pu 12 (some 49) HT_ ?_
       refine pu 14 (some 51) HT_ ?_
       refine pu 15 (some 52) HT_ ?_
       refine pu 16 (some 53) HT_ ?_
       refine pu 17 (some 54) HT_ ?_
       refine tk 13 (some 50) HT_ HW_ hHeld ?_ (hy := by rintro w' ⟨s0, s1⟩; go_simp; with_reducible rfl)
       refine tk 18 (some 55) HT_ HW_ hHeld ?_ (hy := by rintro w' ⟨s0, s1⟩; go_simp; with_reducible rfl)
       refine pu 19 (some 56) HT_ ?_
       refine pu 20 (some 57) HT_ ?_
       refine pu 21 (some 58) HT_ ?_
       refine la 22 none HT_ (fun K hK => ?_)
       refine skip_ (w1 := ?_) (by rfl) rfl ?_ ?_
       rotate_left
       ·go_simp
        rfl
       refine hK.out _ _ ?_
       clear hK K
       refine done_ (done_of HT_.out (by kernel_rfl)) ?_
       try go_wp2
       (try simp only [← hl6_2])
       go_roundg k2
       case measure => have := HK1.out; have := HK2.out; omega
       case rel => exact ⟨(y156), (wrap64 (x10_2 + 1)), (by first | rfl | (simp; done) | (simp [*]; done)), H', ⟨by have := HK1.out; have := HK2.out; omega⟩, ⟨by (try simp only [hl6_1]); (try simp only [hl6_2]); (with_reducible repeat (first | apply Kd.R_alloc | apply Kd.R_drewN | apply Kd.R_drew)); exact Kd.R_mono (Kd.R_far (p := ⟨go19, ((ji14) : Int).toNat, none⟩) (Kd.R_mono HO_5.out (fun k_ hk => (⟨hk, fun e_ => hk (by rw [e_]; rfl)⟩ : _ ∧ k_ ≠ go19))) (fun _ hk => hk.2) (.int .i64 (wrap64 ((rd x6_2 (ji14)) - (wrap64 ((rd x6_1 x8_1) * (rd t147 x10_2))))))) (fun _ hk => hk.1)⟩, ⟨by (try simp only [hl6_1]); (try simp only [hl6_2]); (with_reducible repeat (first | apply Kd.R_alloc | apply Kd.R_drewN | apply Kd.R_drew)); exact HQ21.out⟩, ⟨by (try simp only [hl6_1]); (try simp only [hl6_2]); (with_reducible repeat (first | refine blk_drewN ?_ _ | refine blk_drew ?_ | refine blk_alloc ?_ _)); refine blk_far ?_ (by have h_ := Kd.R_ne HO_6.out BK146.out (by decide); intro e_; exact h_ (by rw [e_]; rfl)) _; (with_reducible repeat (first | refine blk_drewN ?_ _ | refine blk_drew ?_ | refine blk_alloc ?_ _)); exact BK146.out⟩, ⟨by repeat (first | (with_reducible first | exact HB.out | apply below_alloc | apply pw_below_drewN | apply below_drew1 | refine below_set ?_ GB19.out | refine below_set ?_ GE146.out) | exact HB.out)⟩⟩
      ·rw [if_neg c13] at H
       have c13b0 : decide (x10_2 ≤ (wrap64 ((t147.length : Int) - 1))) = false := decide_eq_false c13
       clear c13
       have H' := Aside0.mk H
       clear H
       go_wp2
       (try simp only [← hl6_1, ← hl6_2])
       go_roundg k2
       case measure => have := HK1.out; have := HK2.out; omega
       case rel => exact ⟨(x6_2), (wrap64 (x8_1 - 1)), (by first | rfl | (simp; done) | (simp [*]; done)), H', ⟨by have := HK1.out; have := HK2.out; omega⟩, ⟨by (try simp only [hl6_1]); (try simp only [hl6_2]); (with_reducible repeat (first | apply Kd.R_alloc | apply Kd.R_drewN | apply Kd.R_drew)); exact HO_5.out⟩, ⟨by (try simp only [hl6_1]); (try simp only [hl6_2]); (with_reducible repeat (first | apply Kd.R_alloc | apply Kd.R_drewN | apply Kd.R_drew)); exact HO_6.out⟩, ⟨by (try simp only [hl6_1]); (try simp only [hl6_2]); (with_reducible repeat (first | refine blk_drewN ?_ _ | refine blk_drew ?_ | refine blk_alloc ?_ _)); exact BK146.out⟩, ⟨bks HB.out⟩⟩
   ·rw [if_neg c10] at H
    have c10b0 : decide ((wrap64 ((t147.length : Int) - 1)) ≤ x8_1) = false := decide_eq_false c10
    clear c10
    replace H := Option.bind_eq_some_iff.mp H
    obtain ⟨⟨t157, t158⟩, A220, H⟩ := H
    try dsimp only at H
    have A22 := Aside0.mk A220
    clear A220
    have H' := Aside0.mk H
    clear H
    go_wp2_with (first | ((with_reducible refine gate_callee (f := 90) rfl ?_); refine gl (some 60) Try.func90 #[.int .i64 a0] ?_; (with_reducible refine (spec_l01Zero.calls k1 a0 t157 t158 _ A22.out).mono ?_); rintro e w23 ⟨v159, rfl, ho0, hb⟩; refine ⟨_, rfl, ?_⟩; have HO160 := Aside0.mk (Kd.R_lower (Kd.R_new' (Kd.R_new' ho0 (Kd.R_lt (rk HO_5.out))) (Kd.R_lt (rk HO_6.out))) (below_size (bks HB.out))); replace HO_5 := re HO_5 ho0 hb; replace HO_6 := re HO_6 ho0 hb; replace BK146 := bb BK146 hb; replace HB := hs HB hb; (try clear hb ho0)) | ((with_reducible refine gate_dst (N := 11) rfl ?_); (try (refine gate_guard (by rfl) ?_; dsimp only)); refine bx 11 #[.int .i64 0, .slice none 0 0] 51 (fun gb161 hg w24 hbox hb => ?_); have BK161 := Aside0.mk hbox; have GW161 := ge HB hg; have GE161 := GW161; obtain ⟨NB146_161, NB161_146⟩ := nb BK146 hg; replace HO_5 := rb HO_5 hb; replace HO_6 := rb HO_6 hb; replace HO160 := rb HO160 hb; replace BK146 := bb BK146 hb; replace HB := hs HB hb; clear hb hbox hg; have hnb25 := NB161_146.out; have hnc25 := NB146_161.out; have hcz26_0 : w24.cell? ⟨gb161, 0, none⟩ = some (.int .i64 0) := (blk_cell BK161.out 0).trans rfl; have hcz26_1 : w24.cell? ⟨gb161, 1, none⟩ = some (.slice none 0 0) := (blk_cell BK161.out 1).trans rfl; have hfz26_0 := blk_frozen BK161.out 0; have hfz26_1 := blk_frozen BK161.out 1; obtain ⟨Ao27, co27, eo27⟩ := Kd.R_slice HO160.out; subst eo27))
    go_loopg [12] k1 (fun kq v12 w' => ∃ (x6_2 : List Int) (x12_2 : Int) (x162001_2 : List Int) (u162001 : Value), v12 = .int .i64 x12_2 ∧ Aside0 (spec_l01Reduce.l2 kq x6_2 (wrap64 ((t147.length : Int) - 1)) x12_2 t157 x162001_2 = some (r1, r2)) ∧ Aside0 (kq ≤ k1) ∧ Aside0 (Kd.R (Kd.int .i64) 2 w' w.heap.size (fun k_ => some k_ ≠ (u162001 : Value).ownBlock) (.slice Ao9 x6_1.length co9) x6_2) ∧ Aside0 (Kd.R (Kd.int .i64) 2 w' w.heap.size (fun k_ => some k_ ≠ ((.slice Ao9 x6_1.length co9) : Value).ownBlock) u162001 x162001_2) ∧ Aside0 (w'.heap[gb146]? = some (.cells #[.int .i64 0, (.slice none 0 0)] 51 (0, 0))) ∧ Aside0 (w'.heap[gb161]? = some (.cells #[.int .i64 t157, u162001] 51 (0, 0))) ∧ Aside0 (Below w.heap.size w w'))
    case atStart => exact ⟨(x6_1), (0), (t158), (.slice Ao27 t158.length co27), (by first | rfl | (simp; done) | (simp [*]; done)), H', ⟨Nat.le_refl _⟩, ⟨by (try simp only [hl6_1]); (with_reducible repeat (first | apply Kd.R_alloc | apply Kd.R_drewN | apply Kd.R_drew)); exact Kd.R_mono (Kd.R_far (p := ⟨gb161, 1, none⟩) (Kd.R_far (p := ⟨gb161, 0, none⟩) (Kd.R_types HO_6.out BK161.out (by decide)) (fun _ hk => hk.2) (.int .i64 t157)) (fun _ hk => hk.2) (.slice Ao27 t158.length co27)) (fun _ hk => hk.1.2)⟩, ⟨by (try simp only [hl6_1]); (with_reducible repeat (first | apply Kd.R_alloc | apply Kd.R_drewN | apply Kd.R_drew)); exact Kd.R_mono (Kd.R_far (p := ⟨gb161, 1, none⟩) (Kd.R_far (p := ⟨gb161, 0, none⟩) (Kd.R_types HO160.out BK161.out (by decide)) (fun _ hk => hk.2) (.int .i64 t157)) (fun _ hk => hk.2) (.slice Ao27 t158.length co27)) (fun _ hk => hk.1.2)⟩, ⟨by (try simp only [hl6_1]); (with_reducible repeat (first | refine blk_drewN ?_ _ | refine blk_drew ?_ | refine blk_alloc ?_ _)); refine blk_far ?_ NB146_161.out _; (with_reducible repeat (first | refine blk_drewN ?_ _ | refine blk_drew ?_ | refine blk_alloc ?_ _)); refine blk_far ?_ NB146_161.out _; (with_reducible repeat (first | refine blk_drewN ?_ _ | refine blk_drew ?_ | refine blk_alloc ?_ _)); exact BK146.out⟩, ⟨by (try simp only [hl6_1]); (with_reducible repeat (first | refine blk_drewN ?_ _ | refine blk_drew ?_ | refine blk_alloc ?_ _)); refine blk_put (cs := #[.int .i64 t157, .slice none 0 0]) ?_ 1 _ rfl; (with_reducible repeat (first | refine blk_drewN ?_ _ | refine blk_drew ?_ | refine blk_alloc ?_ _)); refine blk_put (cs := #[.int .i64 0, .slice none 0 0]) ?_ 0 _ rfl; (with_reducible repeat (first | refine blk_drewN ?_ _ | refine blk_drew ?_ | refine blk_alloc ?_ _)); exact BK161.out⟩, ⟨bks HB.out⟩⟩
    case round =>
     clear H'
     try clear c1; try clear p1; try clear q1; try clear hx1; try clear c2; try clear p2; try clear p6; try clear c9; try clear c10; try clear c10b0; try clear c11; try clear c11b0; try clear c12; try clear c12b0; try clear c13; try clear c13b0; try clear c15; try clear c15b0; try clear p15; try clear q15; try clear hx15; try clear c16; try clear c16b0; try clear c17; try clear c17b0; try clear c18; try clear c18b0; try clear p19; try clear q19; try clear hx19; try clear hf19; try clear c25; try clear hcz26_0; try clear hcz26_1; try clear hfz26_0; try clear hfz26_1; try clear hx153_0; try clear hx154_0; try clear hx155_0; try clear hx19_0; try clear p1; try clear p153; try clear p154; try clear p155; try clear p19; try clear p2; try clear p6; try clear q1; try clear q153; try clear q154; try clear q155; try clear q19
     obtain ⟨x6_2, x12_2, x162001_2, u162001, rfl, HA, HK2, HO_6, HO_162001, BK146, BK161, HB⟩ := hrel
     have hl6_2 := (Kd.R_reads' HO_6.out).1
     rw [hl6_2] at HO_6
     (try simp only [hl6_2])
     (try simp only [hl6_2] at BK146)
     (try simp only [hl6_2] at BK161)
     (try simp only [hl6_2] at HO_162001)
     cases gk with
     | zero => exact absurd HA.out (by simp [spec_l01Reduce.l2])
     | succ k2 =>
      have H := HA.out
      clear HA
      simp only [spec_l01Reduce.l2] at H
      by_cases c28 : x12_2 < (wrap64 ((t147.length : Int) - 1))
      ·rw [if_pos c28] at H
       have c28b0 : decide (x12_2 < (wrap64 ((t147.length : Int) - 1))) = true := decide_eq_true c28
       clear c28
       by_cases c29 : x12_2 < (x6_2.length : Int)
       ·rw [if_pos c29] at H
        have c29b0 : decide (x12_2 < (x6_2.length : Int)) = true := decide_eq_true c29
        clear c29
        by_cases c30 : 0 ≤ x12_2
        rotate_left
        ·rw [if_neg c30] at H; exact absurd H (by simp)
        rw [if_pos c30] at H
        have c30b0 : decide (0 ≤ x12_2) = true := decide_eq_true c30
        clear c30
        by_cases c31 : x12_2 < (x162001_2.length : Int)
        rotate_left
        ·rw [if_neg c31] at H; exact absurd H (by simp)
        rw [if_pos c31] at H
        have c31b0 : decide (x12_2 < (x162001_2.length : Int)) = true := decide_eq_true c31
        clear c31
        obtain ⟨y163, hy163⟩ : ∃ y_ : List Int, y_ = (x162001_2.set (x12_2 : Int).toNat (rd x6_2 x12_2)) := ⟨_, rfl⟩
        replace H : (spec_l01Reduce.l2 k2 x6_2 (wrap64 ((t147.length : Int) - 1)) (wrap64 (x12_2 + 1)) t157 y163) = some (r1, r2) := by first | (rw [hy163]; with_reducible exact H) | (have H2_ := (Option.bind_some _ _).symm.trans H; rw [hy163]; with_reducible exact H2_) | (have H2_ := (Option.bind_some _ _).symm.trans H; with_reducible exact H2_) | with_reducible exact H | (rw [hy163]; exact H) | exact H
        have Ny163 := Aside0.mk hy163
        clear hy163
        have H' := Aside0.mk H
        clear H
        try go_wp2
        replace HO_6 := rd0 HO_6
        replace HO_162001 := rd0 HO_162001
        replace BK146 := bd BK146
        replace BK161 := bd BK161
        replace HB := hd0 HB
        have p162 : 0 ≤ (x12_2 : Int) := of_decide_eq_true (by first | (with_reducible assumption) | assumption)
        have q162 : x12_2 < (x6_2.length : Int) := of_decide_eq_true (by first | (with_reducible assumption) | assumption)
        try (obtain ⟨Aw_, cw_, ew_⟩ := Kd.R_slice HO_6.out; subst ew_)
        obtain ⟨ad162, e162, hx162_0⟩ := Kd.at_int (Kd.R_reads' HO_6.out).2.2 x12_2 p162 q162
        cases e162
        replace p162 := eq_true p162
        replace q162 := eq_true q162
        have p32 : 0 ≤ (x12_2 : Int) := of_decide_eq_true (by first | (with_reducible assumption) | assumption)
        have q32 : (x12_2 : Int) < ((x162001_2.length : Int) : Int) := of_decide_eq_true (by first | (with_reducible assumption) | assumption)
        obtain ⟨go32, co32, eo32, gb32, gl32, cl32, HG32⟩ := Kd.R_form HO_162001.out (by omega)
        (first | cases eo32 | (injection eo32 with ea_ en_ ec_; (first | subst ea_ | (injection ea_ with ea_; subst ea_)); subst ec_; clear en_))
        have GB32 := Aside0.mk gb32
        have GG32 := Aside0.mk HG32
        clear gb32 gl32 HG32
        obtain ⟨hx32_0, hf32_0⟩ := Kd.R_celln 0 HO_162001.out (x12_2 : Int) p32 q32
        replace p32 := eq_true p32
        replace q32 := eq_true q32
        have HP34 := Kd.R_putn HO_162001.out (x12_2 : Int) (rd x6_2 x12_2)
        rw [← Ny163.out] at HP34
        have HQ34 := Aside0.mk HP34
        clear HP34
        refine start_ (n := 9) (S := fun w' => w'.cell? ⟨gb161, 0, none⟩ = some (.int .i64 t157) ∧ w'.cell? ⟨gb161, 1, none⟩ = some (.slice (some ⟨go32, 0, none⟩) x162001_2.length co32) ∧ w'.cell? (ad162.add (x12_2).toNat) = some (.int .i64 (rd x6_2 x12_2))) (ds := [8]) #[false, false, false, false, false, false, false, false, false] (by kernel_rfl) rfl rfl ⟨(blk_cell BK161.out 0).trans rfl, (blk_cell BK161.out 1).trans rfl, hx162_0⟩ (fun hHeld => ?_); refine with_tabW spec_l01Reduce.tab15 spec_l01Reduce.bits15 (fun HT_ HW_ => ?_)
        generalize wr.drew = w33 at HO_6 HO_162001 BK146 BK161 HB GG32 HQ34 hf32_0 hx162_0 hx32_0 hHeld ⊢
        refine pu 0 (some 72) HT_ ?_
        refine pu 2 (some 74) HT_ ?_
        refine pu 3 (some 75) HT_ ?_
        refine pu 4 (some 76) HT_ ?_
        refine pu 5 (some 77) HT_ ?_
        refine tk 1 (some 73) HT_ HW_ hHeld ?_ (hy := by rintro w' ⟨s0, s1, s2⟩; go_simp; with_reducible rfl)
        refine tk 6 (some 78) HT_ HW_ hHeld ?_ (hy := by rintro w' ⟨s0, s1, s2⟩; go_simp; with_reducible rfl)
        refine pu 7 (some 79) HT_ ?_
        refine la 8 none HT_ (fun K hK => ?_)
        refine skip_ (w1 := ?_) (by rfl) rfl ?_ ?_
        rotate_left
        ·go_simp
         rfl
        refine hK.out _ _ ?_
        clear hK K
        refine done_ (done_of HT_.out (by kernel_rfl)) ?_
        try go_wp2
        (try simp only [← hl6_2])
        go_roundg k2
        case measure => have := HK1.out; have := HK2.out; omega
        case rel => exact ⟨(x6_2), (wrap64 (x12_2 + 1)), (y163), (.slice (some ⟨go32, 0, none⟩) x162001_2.length co32), (by first | rfl | (simp; done) | (simp [*]; done)), H', ⟨by have := HK1.out; have := HK2.out; omega⟩, ⟨by (try simp only [hl6_1]); (try simp only [hl6_2]); (with_reducible repeat (first | apply Kd.R_alloc | apply Kd.R_drewN | apply Kd.R_drew)); exact Kd.R_mono (Kd.R_far (p := ⟨go32, (x12_2 : Int).toNat, none⟩) (Kd.R_mono HO_6.out (fun k_ hk => (⟨hk, fun e_ => hk (by rw [e_]; rfl)⟩ : _ ∧ k_ ≠ go32))) (fun _ hk => hk.2) (.int .i64 (rd x6_2 x12_2))) (fun _ hk => hk.1)⟩, ⟨by (try simp only [hl6_1]); (try simp only [hl6_2]); (with_reducible repeat (first | apply Kd.R_alloc | apply Kd.R_drewN | apply Kd.R_drew)); exact HQ34.out⟩, ⟨by (try simp only [hl6_1]); (try simp only [hl6_2]); (with_reducible repeat (first | refine blk_drewN ?_ _ | refine blk_drew ?_ | refine blk_alloc ?_ _)); refine blk_far ?_ (by have h_ := Kd.R_ne HO_162001.out BK146.out (by decide); intro e_; exact h_ (by rw [e_]; rfl)) _; (with_reducible repeat (first | refine blk_drewN ?_ _ | refine blk_drew ?_ | refine blk_alloc ?_ _)); exact BK146.out⟩, ⟨by (try simp only [hl6_1]); (try simp only [hl6_2]); (with_reducible repeat (first | refine blk_drewN ?_ _ | refine blk_drew ?_ | refine blk_alloc ?_ _)); refine blk_far ?_ (by have h_ := Kd.R_ne HO_162001.out BK161.out (by decide); intro e_; exact h_ (by rw [e_]; rfl)) _; (with_reducible repeat (first | refine blk_drewN ?_ _ | refine blk_drew ?_ | refine blk_alloc ?_ _)); exact BK161.out⟩, ⟨by repeat (first | (with_reducible first | exact HB.out | apply below_alloc | apply pw_below_drewN | apply below_drew1 | refine below_set ?_ GB32.out | refine below_set ?_ GE146.out | refine below_set ?_ GE161.out) | exact HB.out)⟩⟩
       ·rw [if_neg c29] at H
        have c29b0 : decide (x12_2 < (x6_2.length : Int)) = false := decide_eq_false c29
        clear c29
        simp only [Option.some.injEq, Prod.mk.injEq] at H
        obtain ⟨rfl, rfl⟩ := H
        have hnb35 := NB161_146.out
        have hnc35 := NB146_161.out
        have hcz36_0 : wr.cell? ⟨gb161, 0, none⟩ = some (.int .i64 t157) := (blk_cell BK161.out 0).trans rfl
        have hcz36_1 : wr.cell? ⟨gb161, 1, none⟩ = some (u162001) := (blk_cell BK161.out 1).trans rfl
        have hfz36_0 := blk_frozen BK161.out 0
        have hfz36_1 := blk_frozen BK161.out 1
        have hcz37_0 : wr.cell? ⟨gb146, 0, none⟩ = some (.int .i64 0) := (blk_cell BK146.out 0).trans rfl
        have hcz37_1 : wr.cell? ⟨gb146, 1, none⟩ = some (.slice none 0 0) := (blk_cell BK146.out 1).trans rfl
        have hfz37_0 := blk_frozen BK146.out 0
        have hfz37_1 := blk_frozen BK146.out 1
        obtain ⟨Ao38, co38, eo38⟩ := Kd.R_slice HO_162001.out
        subst eo38
        go_wp2
        refine bodyPost_ret (results_cell_row rfl _ _ gb146 51 #[.int .i64 t157, .slice Ao38 x162001_2.length co38] (0, 0) _ rfl (by (with_reducible repeat (first | refine blk_drewN ?_ _ | refine blk_drew ?_ | refine blk_alloc ?_ _)); refine blk_put (cs := #[.int .i64 t157, .slice none 0 0]) ?_ 1 _ rfl; (with_reducible repeat (first | refine blk_drewN ?_ _ | refine blk_drew ?_ | refine blk_alloc ?_ _)); refine blk_put (cs := #[.int .i64 0, .slice none 0 0]) ?_ 0 _ rfl; (with_reducible repeat (first | refine blk_drewN ?_ _ | refine blk_drew ?_ | refine blk_alloc ?_ _)); exact BK146.out) Try.underlying51 rfl (by kernel_rfl)) rfl ?_
        exact ⟨_, by first | rfl | (simp [errW_none, errW_some] <;> rfl) | (simp [*, errW_none, errW_some] <;> rfl), by (with_reducible repeat (first | apply Kd.R_alloc | apply Kd.R_drewN | apply Kd.R_drew)); exact Kd.R_mono (Kd.R_far (p := ⟨gb146, 1, none⟩) (Kd.R_far (p := ⟨gb146, 0, none⟩) (Kd.R_types HO_162001.out BK146.out (by decide)) (fun _ hk => hk.2) (.int .i64 t157)) (fun _ hk => hk.2) (.slice Ao38 x162001_2.length co38)) (fun _ hk => trivial), bks HB.out⟩
      ·rw [if_neg c28] at H
       have c28b0 : decide (x12_2 < (wrap64 ((t147.length : Int) - 1))) = false := decide_eq_false c28
       clear c28
       simp only [Option.some.injEq, Prod.mk.injEq] at H
       obtain ⟨rfl, rfl⟩ := H
       have hnb39 := NB161_146.out
       have hnc39 := NB146_161.out
       have hcz40_0 : wr.cell? ⟨gb161, 0, none⟩ = some (.int .i64 t157) := (blk_cell BK161.out 0).trans rfl
       have hcz40_1 : wr.cell? ⟨gb161, 1, none⟩ = some (u162001) := (blk_cell BK161.out 1).trans rfl
       have hfz40_0 := blk_frozen BK161.out 0
       have hfz40_1 := blk_frozen BK161.out 1
       have hcz41_0 : wr.cell? ⟨gb146, 0, none⟩ = some (.int .i64 0) := (blk_cell BK146.out 0).trans rfl
       have hcz41_1 : wr.cell? ⟨gb146, 1, none⟩ = some (.slice none 0 0) := (blk_cell BK146.out 1).trans rfl
       have hfz41_0 := blk_frozen BK146.out 0
       have hfz41_1 := blk_frozen BK146.out 1
       obtain ⟨Ao42, co42, eo42⟩ := Kd.R_slice HO_162001.out
       subst eo42
       go_wp2
       refine bodyPost_ret (results_cell_row rfl _ _ gb146 51 #[.int .i64 t157, .slice Ao42 x162001_2.length co42] (0, 0) _ rfl (by (with_reducible repeat (first | refine blk_drewN ?_ _ | refine blk_drew ?_ | refine blk_alloc ?_ _)); refine blk_put (cs := #[.int .i64 t157, .slice none 0 0]) ?_ 1 _ rfl; (with_reducible repeat (first | refine blk_drewN ?_ _ | refine blk_drew ?_ | refine blk_alloc ?_ _)); refine blk_put (cs := #[.int .i64 0, .slice none 0 0]) ?_ 0 _ rfl; (with_reducible repeat (first | refine blk_drewN ?_ _ | refine blk_drew ?_ | refine blk_alloc ?_ _)); exact BK146.out) Try.underlying51 rfl (by kernel_rfl)) rfl ?_
       exact ⟨_, by first | rfl | (simp [errW_none, errW_some] <;> rfl) | (simp [*, errW_none, errW_some] <;> rfl), by (with_reducible repeat (first | apply Kd.R_alloc | apply Kd.R_drewN | apply Kd.R_drew)); exact Kd.R_mono (Kd.R_far (p := ⟨gb146, 1, none⟩) (Kd.R_far (p := ⟨gb146, 0, none⟩) (Kd.R_types HO_162001.out BK146.out (by decide)) (fun _ hk => hk.2) (.int .i64 t157)) (fun _ hk => hk.2) (.slice Ao42 x162001_2.length co42)) (fun _ hk => trivial), bks HB.out⟩

/-! ### spec_l01Unit: function 92 -/
def spec_l01Unit.f (k : Nat) (a0 : Int) (a1 : Int) : Option (Int × List Int) := if a0 = 0 then (none) else (if 0 ≤ (wrap64 ((Int.tmod (wrap64 ((Int.tmod a1 a0) + a0)) a0) + 1)) then (if (wrap64 ((Int.tmod (wrap64 ((Int.tmod a1 a0) + a0)) a0) + 1) : Int).toNat ≤ 35184372088832 then ((some (List.replicate (wrap64 ((Int.tmod (wrap64 ((Int.tmod a1 a0) + a0)) a0) + 1) : Int).toNat 0 : List Int)).bind fun y165 => (if 0 ≤ (Int.tmod (wrap64 ((Int.tmod a1 a0) + a0)) a0) then (if (Int.tmod (wrap64 ((Int.tmod a1 a0) + a0)) a0) < (y165.length : Int) then ((spec_l01Reduce.f k a0 (y165.set ((Int.tmod (wrap64 ((Int.tmod a1 a0) + a0)) a0) : Int).toNat 1)).bind fun bt169 => (some (bt169.1, bt169.2))) else (none)) else (none))) else (none)) else (none))
theorem spec_l01Unit.mono : ∀ a0 a1 k, LeO (spec_l01Unit.f k a0 a1) (spec_l01Unit.f (k + 1) a0 a1) := by
 intro a0 a1 k
 unfold spec_l01Unit.f
 repeat' first | (with_reducible first | exact spec_l01Reduce.mono _ _ _ | exact LeO.refl _ | exact LeO.none _ | refine LeO.ite ?_ ?_ | refine LeO.bind ?_ (fun _ => ?_)) | exact LeO.none _ | refine LeO.ite ?_ ?_ | refine LeO.bind ?_ (fun _ => ?_)
set_option maxHeartbeats 8000000 in
set_option maxRecDepth 100000 in
theorem spec_l01Unit.calls (k : Nat) (a0 : Int) (a1 : Int) (r1 : Int) (r2 : List Int) (w : World) (h : spec_l01Unit.f k a0 a1 = some (r1, r2)) :
  Calls Try.prog 92 #[.int .i64 a0, .int .i64 a1] w fun e w' => ∃ v1_ : Value, e = .returned (.agg #[.int .i64 r1, v1_]) ∧ Kd.R (Kd.int .i64) 2 w' w.heap.size (fun _ => True) v1_ r2 ∧ Below w.heap.size w w' := by
 have hu51 := Try.underlying51
 have HB := Aside0.mk (Below.refl w.heap.size w)
 have H := h
 unfold spec_l01Unit.f at H
 clear h
 by_cases c3 : a0 = 0
 ·rw [if_pos c3] at H; exact absurd H (by simp)
 rw [if_neg c3] at H
 have c3b0 : (a0 == 0) = false := beq_eq_false_iff_ne.mpr c3
 have c3b1 : (a0 != 0) = true := bne_iff_ne.mpr c3
 obtain ⟨ji4, hji4⟩ : ∃ j_ : Int, (wrap64 ((Int.tmod (wrap64 ((Int.tmod a1 a0) + a0)) a0) + 1)) = j_ := ⟨_, rfl⟩
 replace H : (if 0 ≤ (ji4) then (if (ji4 : Int).toNat ≤ 35184372088832 then ((some (List.replicate (ji4 : Int).toNat 0 : List Int)).bind fun y165 => (if 0 ≤ (Int.tmod (wrap64 ((Int.tmod a1 a0) + a0)) a0) then (if (Int.tmod (wrap64 ((Int.tmod a1 a0) + a0)) a0) < (y165.length : Int) then ((spec_l01Reduce.f k a0 (y165.set ((Int.tmod (wrap64 ((Int.tmod a1 a0) + a0)) a0) : Int).toNat 1)).bind fun bt169 => (some (bt169.1, bt169.2))) else (none)) else (none))) else (none)) else (none)) = some (r1, r2) := by first | (rw [hji4] at H; exact H) | (simp only [hji4] at H ⊢; exact H)
 have hji4w : (IntKind.i64.wrap ((Int.tmod (wrap64 ((Int.tmod a1 a0) + a0)) a0) + 1)) = ji4 := (i64_w _).trans hji4
 by_cases c5 : 0 ≤ (ji4)
 rotate_left
 ·rw [if_neg c5] at H; exact absurd H (by simp)
 rw [if_pos c5] at H
 have c5b0 := eq_true c5
 have c5b1 : decide (0 ≤ (ji4)) = true := decide_eq_true c5
 clear c5
 by_cases c6 : (ji4 : Int).toNat ≤ 35184372088832
 rotate_left
 ·rw [if_neg c6] at H; exact absurd H (by simp)
 rw [if_pos c6] at H
 have c6b0 := eq_true c6
 have c6b1 : decide ((ji4 : Int).toNat ≤ 35184372088832) = true := decide_eq_true c6
 clear c6
 obtain ⟨y165, hy165⟩ : ∃ y_ : List Int, y_ = (List.replicate (ji4 : Int).toNat 0) := ⟨_, rfl⟩
 replace H : (if 0 ≤ (Int.tmod (wrap64 ((Int.tmod a1 a0) + a0)) a0) then (if (Int.tmod (wrap64 ((Int.tmod a1 a0) + a0)) a0) < (y165.length : Int) then ((spec_l01Reduce.f k a0 (y165.set ((Int.tmod (wrap64 ((Int.tmod a1 a0) + a0)) a0) : Int).toNat 1)).bind fun bt169 => (some (bt169.1, bt169.2))) else (none)) else (none)) = some (r1, r2) := by first | (rw [hy165]; with_reducible exact H) | (have H2_ := (Option.bind_some _ _).symm.trans H; rw [hy165]; with_reducible exact H2_) | (have H2_ := (Option.bind_some _ _).symm.trans H; with_reducible exact H2_) | with_reducible exact H | (rw [hy165]; exact H) | exact H
 have Ny165 := Aside0.mk hy165
 clear hy165
 obtain ⟨ji7, hji7⟩ : ∃ j_ : Int, (Int.tmod (wrap64 ((Int.tmod a1 a0) + a0)) a0) = j_ := ⟨_, rfl⟩
 (try rw [hji7] at hji4)
 (try rw [hji7] at hji4w)
 replace H : (if 0 ≤ (ji7) then (if (ji7) < (y165.length : Int) then ((spec_l01Reduce.f k a0 (y165.set ((ji7) : Int).toNat 1)).bind fun bt169 => (some (bt169.1, bt169.2))) else (none)) else (none)) = some (r1, r2) := by first | (rw [hji7] at H; exact H) | (simp only [hji7] at H ⊢; exact H)
 by_cases c8 : 0 ≤ (ji7)
 rotate_left
 ·rw [if_neg c8] at H; exact absurd H (by simp)
 rw [if_pos c8] at H
 have c8b0 : decide (0 ≤ (ji7)) = true := decide_eq_true c8
 clear c8
 by_cases c9 : (ji7) < (y165.length : Int)
 rotate_left
 ·rw [if_neg c9] at H; exact absurd H (by simp)
 rw [if_pos c9] at H
 have c9b0 : decide ((ji7) < (y165.length : Int)) = true := decide_eq_true c9
 clear c9
 obtain ⟨y168, hy168⟩ : ∃ y_ : List Int, y_ = (y165.set ((ji7) : Int).toNat 1) := ⟨_, rfl⟩
 replace H : ((spec_l01Reduce.f k a0 y168).bind fun bt169 => (some (bt169.1, bt169.2))) = some (r1, r2) := by first | (rw [hy168]; with_reducible exact H) | (have H2_ := (Option.bind_some _ _).symm.trans H; rw [hy168]; with_reducible exact H2_) | (have H2_ := (Option.bind_some _ _).symm.trans H; with_reducible exact H2_) | with_reducible exact H | (rw [hy168]; exact H) | exact H
 have Ny168 := Aside0.mk hy168
 clear hy168
 replace H := Option.bind_eq_some_iff.mp H
 obtain ⟨⟨t169, t170⟩, A110, H⟩ := H
 replace H : (some (t169, t170)) = some (r1, r2) := H
 have A11 := Aside0.mk A110
 clear A110
 simp only [Option.some.injEq, Prod.mk.injEq] at H
 obtain ⟨rfl, rfl⟩ := H
 go_enter Try.func92, Try.ntmps92
 go_wp2_with (first | ((with_reducible refine gate_dst (N := 4) rfl ?_); refine bx 4 #[.int .i64 0, .slice none 0 0] 51 (fun gb164 hg w12 hbox hb => ?_); have BK164 := Aside0.mk hbox; have GW164 := ge HB hg; have GE164 := GW164; replace HB := hs HB hb; clear hb hbox hg) | ((with_reducible refine gate_dst (N := 15) rfl ?_); refine Kd.R_make (Kd.int .i64) _ 2 rfl (N := 15) rfl 22 _ _ rfl ji4 rfl rfl Try.underlying22 (.int .i64 0) 8 info2 rfl (by decide) (by omega) 0 (ok := fun _ => True) (okp := fun _ => True) rfl (fun _ hk => hk) trivial (of_decide_eq_true (by first | (with_reducible assumption) | assumption)) (Nat.le_trans (Nat.mul_le_mul_right _ (of_decide_eq_true (by first | (with_reducible assumption) | assumption) : ji4.toNat ≤ 35184372088832)) (by omega)) (Below.refl _ _) (Nat.le_refl _) ?_; intro v166 w13 ho14 hb hg_ hnew_; clear hg_ hnew_; (first | rw [← Ny165.out] at ho14 | (simp only [Int.reduceToNat] at ho14; rw [← Ny165.out] at ho14)); have HO167 := Aside0.mk (Kd.R_lower ho14 (below_size (bks HB.out))); replace BK164 := bb BK164 hb; replace HB := hs HB hb; clear hb ho14; have p10 : 0 ≤ ((ji7) : Int) := of_decide_eq_true (by first | (with_reducible assumption) | assumption); have q10 : ((ji7) : Int) < ((y165.length : Int) : Int) := of_decide_eq_true (by first | (with_reducible assumption) | assumption); obtain ⟨go10, co10, eo10, gb10, gl10, cl10, HG10⟩ := Kd.R_form HO167.out (by omega); (first | cases eo10 | (injection eo10 with ea_ en_ ec_; (first | subst ea_ | (injection ea_ with ea_; subst ea_)); subst ec_; clear en_)); have GB10 := Aside0.mk gb10; have GG10 := Aside0.mk HG10; clear gb10 gl10 HG10; obtain ⟨hx10_0, hf10_0⟩ := Kd.R_celln 0 HO167.out ((ji7) : Int) p10 q10; replace p10 := eq_true p10; replace q10 := eq_true q10; obtain ⟨hy15_, hz15_⟩ := Kd.R_celln 0 HO167.out ((ji7) : Int) (of_decide_eq_true (by first | (with_reducible assumption) | assumption)) (of_decide_eq_true (by first | (with_reducible assumption) | assumption)); have HP15 := Kd.R_putg HO167.out ((ji7) : Int) 1) | ((with_reducible refine gate_store (t := 2) (p := 18) rfl ?_); refine store_event (t := 2) (p := 18) (v := ?vo_w16) (w1 := (w13.setCell ⟨go10, ((ji7) : Int).toNat, none⟩ (.int .i64 1))) ?hg ?ho ?hn ?hr ?_; (case ho => rfl); (case hg => rfl); (case hn => rfl); (case hr => first | (go_simp; done) | (go_simp; rfl)); intro w16 hw; have hg : w13.grownBy w16 (some go10) := (by rw [hw]; exact HP15.2); have hp_ : Kd.R (Kd.int .i64) 2 w16 w.heap.size (fun _ => True) (.slice (some ⟨go10, 0, none⟩) y165.length co10) y168 := (by rw [hw, Ny168.out]; exact HP15.1); clear HP15; replace BK164 := Aside0.mk (blk_grown (pk BK164.out) hg (Kd.R_ne HO167.out BK164.out (by decide))); replace HO167 := Aside0.mk hp_; replace HB := Aside0.mk (by rw [hw]; exact below_set (HB.out) GB10.out : Below w.heap.size w w16); clear hg hw hp_) | ((with_reducible refine gate_callee (f := 114) rfl ?_); refine goesL_ (some 21) rfl rfl Try.func114 (by kernel_rfl) rfl #[.int .i64 a0, .slice (some ⟨go10, 0, none⟩) y168.length co10] rfl (by (try simp only [List.map_toArray, List.map_cons, List.map_nil]); first | done | (rw [show y168.length = y165.length from (Kd.R_reads' HO167.out).1.symm] <;> rfl) | rfl | (simp only [List.length_drop, List.length_take]; rfl)) ?_; (with_reducible refine (spec_l01Reduce.calls k a0 _ _ y168 t169 t170 _ ?side1 ?side2 A11.out).mono ?_); (case side1 => repeat (first | exact (Kd.R_reads' HO167.out).2.2 | (with_reducible refine Kd.C_alloc ?_ _) | (with_reducible refine Kd.C_drewN ?_ _) | (with_reducible refine Kd.C_drew ?_))); (case side2 => rw [show y168.length = y165.length from (Kd.R_reads' HO167.out).1.symm]; exact (Kd.R_reads' HO167.out).2.1); rintro e w17 ⟨v171, rfl, ho0, hb⟩; refine ⟨_, rfl, ?_⟩; have HO172 := Aside0.mk (Kd.R_lower (Kd.R_new' ho0 (Kd.R_lt (rk HO167.out))) (below_size (bks HB.out))); replace HO167 := re HO167 ho0 hb; replace BK164 := bb BK164 hb; replace HB := hs HB hb; (try clear hb ho0); have hcz18_0 : w17.cell? ⟨gb164, 0, none⟩ = some (.int .i64 0) := (blk_cell BK164.out 0).trans rfl; have hcz18_1 : w17.cell? ⟨gb164, 1, none⟩ = some (.slice none 0 0) := (blk_cell BK164.out 1).trans rfl; have hfz18_0 := blk_frozen BK164.out 0; have hfz18_1 := blk_frozen BK164.out 1; obtain ⟨Ao19, co19, eo19⟩ := Kd.R_slice HO172.out; subst eo19))
 refine bodyPost_ret (results_cell_row rfl _ _ gb164 51 #[.int .i64 t169, .slice Ao19 t170.length co19] (0, 0) _ rfl (by (with_reducible repeat (first | refine blk_drewN ?_ _ | refine blk_drew ?_ | refine blk_alloc ?_ _)); refine blk_put (cs := #[.int .i64 t169, .slice none 0 0]) ?_ 1 _ rfl; (with_reducible repeat (first | refine blk_drewN ?_ _ | refine blk_drew ?_ | refine blk_alloc ?_ _)); refine blk_put (cs := #[.int .i64 0, .slice none 0 0]) ?_ 0 _ rfl; (with_reducible repeat (first | refine blk_drewN ?_ _ | refine blk_drew ?_ | refine blk_alloc ?_ _)); exact BK164.out) Try.underlying51 rfl (by kernel_rfl)) rfl ?_
 exact ⟨_, by first | rfl | (simp [errW_none, errW_some] <;> rfl) | (simp only [← hji4, ← hji7]; first | rfl | (simp [errW_none, errW_some] <;> rfl)) | (simp [*, errW_none, errW_some] <;> rfl), by (with_reducible repeat (first | apply Kd.R_alloc | apply Kd.R_drewN | apply Kd.R_drew)); exact Kd.R_mono (Kd.R_far (p := ⟨gb164, 1, none⟩) (Kd.R_far (p := ⟨gb164, 0, none⟩) (Kd.R_types HO172.out BK164.out (by decide)) (fun _ hk => hk.2) (.int .i64 t169)) (fun _ hk => hk.2) (.slice Ao19 t170.length co19)) (fun _ hk => trivial), bks HB.out⟩
/-! ### spec_CyclotomicUnit: function 34 -/
mutual
def spec_CyclotomicUnit.j0 : Nat → Int → Int → Bool → Option (Int × List Int × Int)
 | 0, _, _, _ => none
 | k + 1, x0, x1, x22 => if x22 = true then (some (0, ([] : List Int), 2)) else ((spec_l01Zero.f k x0).bind fun bt177 => (spec_CyclotomicUnit.l0 k x0 x1 0 bt177.1 bt177.2))
def spec_CyclotomicUnit.l0 : Nat → Int → Int → Int → Int → List Int → Option (Int × List Int × Int)
 | 0, _, _, _, _, _ => none
 | k + 1, x0, x1, x7, x182000, x182001 => if x7 < x1 then ((spec_l01Unit.f k x0 x7).bind fun bt182 => ((spec_l01Plus.f k x182000 x182001 bt182.1 bt182.2 1).bind fun bt186 => (spec_CyclotomicUnit.l0 k x0 x1 (wrap64 (x7 + 1)) bt186.1 bt186.2))) else (some (x182000, x182001, 0))
end
def spec_CyclotomicUnit.f (k : Nat) (a0 : Int) (a1 : Int) : Option (Int × List Int × Int) := (spec_l01In.f a0 2 16).bind fun t174 => (if t174 = true then ((spec_l01In.f a1 1 a0).bind fun t175 => (if t175 = true then ((spec_l01Gcd.f k a1 a0).bind fun t176 => (spec_CyclotomicUnit.j0 k a0 a1 (t176 != 1))) else (spec_CyclotomicUnit.j0 k a0 a1 true))) else (spec_CyclotomicUnit.j0 k a0 a1 true))
theorem spec_CyclotomicUnit.mono_l : ∀ k, (∀ y0 y1 y2, LeO (spec_CyclotomicUnit.j0 k y0 y1 y2) (spec_CyclotomicUnit.j0 (k + 1) y0 y1 y2)) ∧ (∀ y0 y1 y2 y3 y4, LeO (spec_CyclotomicUnit.l0 k y0 y1 y2 y3 y4) (spec_CyclotomicUnit.l0 (k + 1) y0 y1 y2 y3 y4))
 | 0 => ⟨fun _ _ _ r h => by simp [spec_CyclotomicUnit.j0] at h, fun _ _ _ _ _ r h => by simp [spec_CyclotomicUnit.l0] at h⟩
 | k + 1 => by
  obtain ⟨ih0, ih1⟩ := spec_CyclotomicUnit.mono_l k
  refine ⟨?_, ?_⟩
  ·intro y0 y1 y2
   unfold spec_CyclotomicUnit.j0
   repeat' first | (with_reducible first | exact ih0 _ _ _ | exact ih1 _ _ _ _ _ | exact spec_l01Gcd.mono _ _ _ | exact spec_l01Plus.mono _ _ _ _ _ _ | exact spec_l01Unit.mono _ _ _ | exact spec_l01Zero.mono _ _ | exact LeO.refl _ | exact LeO.none _ | refine LeO.ite ?_ ?_ | refine LeO.bind ?_ (fun _ => ?_)) | exact ih0 _ _ _ | exact ih1 _ _ _ _ _ | exact LeO.none _ | refine LeO.ite ?_ ?_ | refine LeO.bind ?_ (fun _ => ?_)
  ·intro y0 y1 y2 y3 y4
   unfold spec_CyclotomicUnit.l0
   repeat' first | (with_reducible first | exact ih0 _ _ _ | exact ih1 _ _ _ _ _ | exact spec_l01Gcd.mono _ _ _ | exact spec_l01Plus.mono _ _ _ _ _ _ | exact spec_l01Unit.mono _ _ _ | exact spec_l01Zero.mono _ _ | exact LeO.refl _ | exact LeO.none _ | refine LeO.ite ?_ ?_ | refine LeO.bind ?_ (fun _ => ?_)) | exact ih0 _ _ _ | exact ih1 _ _ _ _ _ | exact LeO.none _ | refine LeO.ite ?_ ?_ | refine LeO.bind ?_ (fun _ => ?_)
theorem spec_CyclotomicUnit.mono : ∀ a0 a1 k, LeO (spec_CyclotomicUnit.f k a0 a1) (spec_CyclotomicUnit.f (k + 1) a0 a1) := by
 intro a0 a1 k
 obtain ⟨ih0, ih1⟩ := spec_CyclotomicUnit.mono_l k
 unfold spec_CyclotomicUnit.f
 repeat' first | (with_reducible first | exact ih0 _ _ _ | exact ih1 _ _ _ _ _ | exact spec_l01Gcd.mono _ _ _ | exact spec_l01Plus.mono _ _ _ _ _ _ | exact spec_l01Unit.mono _ _ _ | exact spec_l01Zero.mono _ _ | exact LeO.refl _ | exact LeO.none _ | refine LeO.ite ?_ ?_ | refine LeO.bind ?_ (fun _ => ?_)) | exact ih0 _ _ _ | exact ih1 _ _ _ _ _ | exact LeO.none _ | refine LeO.ite ?_ ?_ | refine LeO.bind ?_ (fun _ => ?_)
set_option maxHeartbeats 8000000 in
set_option maxRecDepth 100000 in
theorem spec_CyclotomicUnit.calls (k : Nat) (a0 : Int) (a1 : Int) (r1 : Int) (r2 : List Int) (r3 : Int) (w : World) (h : spec_CyclotomicUnit.f k a0 a1 = some (r1, r2, r3)) :
  Calls Try.prog 34 #[.int .i64 a0, .int .i64 a1] w fun e w' => ∃ v1_ : Value, e = .returned (.tuple #[.agg #[.int .i64 r1, v1_], .int .i64 r3]) ∧ Kd.R (Kd.int .i64) 2 w' w.heap.size (fun _ => True) v1_ r2 ∧ Below w.heap.size w w' := by
 have hu51 := Try.underlying51
 have HB := Aside0.mk (Below.refl w.heap.size w)
 have H := h
 unfold spec_CyclotomicUnit.f at H
 clear h
 have HC3 := Aside0.mk H
 clear H
 go_enter Try.func34, Try.ntmps34
 go_upto_region 1 with (first | ((with_reducible refine gate_dst (N := 4) rfl ?_); refine bx 4 #[.int .i64 0, .slice none 0 0] 51 (fun gb173 hg w4 hbox hb => ?_); have BK173 := Aside0.mk hbox; have GW173 := ge HB hg; have GE173 := GW173; replace HB := hs HB hb; clear hb hbox hg))
 (try simp only [Act.put, List.setIfInBounds_toArray, List.set_cons_zero, List.set_cons_succ])
 go_cut [22] (fun v22 wc => ∃ (kq : Nat) (x22_2 : Bool), v22 = .bool x22_2 ∧ Aside0 (spec_CyclotomicUnit.j0 kq a0 a1 x22_2 = some (r1, r2, r3)) ∧ Aside0 (kq ≤ k) ∧ Aside0 (wc.heap[gb173]? = some (.cells #[.int .i64 0, (.slice none 0 0)] 51 (0, 0))) ∧ Aside0 (Below w.heap.size w wc))
 case first =>
  have H := HC3.out
  clear HC3
  replace H := Option.bind_eq_some_iff.mp H
  obtain ⟨t174, A50, H⟩ := H
  try dsimp only at H
  have A5 := Aside0.mk A50
  clear A50
  by_cases c6 : t174 = true
  ·subst c6
   have H1 : ((spec_l01In.f a1 1 a0).bind fun t175 => (if t175 = true then ((spec_l01Gcd.f k a1 a0).bind fun t176 => (spec_CyclotomicUnit.j0 k a0 a1 (t176 != 1))) else (spec_CyclotomicUnit.j0 k a0 a1 true))) = some (r1, r2, r3) := by rw [if_pos rfl] at H; exact H
   clear H
   have H := H1
   clear H1
   replace H := Option.bind_eq_some_iff.mp H
   obtain ⟨t175, A70, H⟩ := H
   try dsimp only at H
   have A7 := Aside0.mk A70
   clear A70
   by_cases c8 : t175 = true
   ·subst c8
    have H1 : ((spec_l01Gcd.f k a1 a0).bind fun t176 => (spec_CyclotomicUnit.j0 k a0 a1 (t176 != 1))) = some (r1, r2, r3) := by rw [if_pos rfl] at H; exact H
    clear H
    have H := H1
    clear H1
    replace H := Option.bind_eq_some_iff.mp H
    obtain ⟨t176, A90, H⟩ := H
    try dsimp only at H
    have A9 := Aside0.mk A90
    clear A90
    have H' := Aside0.mk H
    clear H
    go_wp2_with (first | ((with_reducible refine gate_callee (f := 53) rfl ?_); refine gl (some 9) Try.func53 #[.int .i64 a0, .int .i64 2, .int .i64 16] ?_; (with_reducible refine (spec_l01In.calls a0 2 16 true _ A5.out).mono ?_); rintro e w' ⟨rfl, ⟨nd, rfl⟩⟩; refine ⟨_, rfl, ?_⟩) | (go_at_call 53; (with_reducible refine (spec_l01In.calls a1 1 a0 true _ A7.out).mono ?_); rintro e w' ⟨rfl, ⟨nd, rfl⟩⟩) | (go_at_call 54; (with_reducible refine (spec_l01Gcd.calls k a1 a0 t176 _ A9.out).mono ?_); rintro e w10 ⟨rfl, hb⟩; replace BK173 := bb BK173 hb; replace HB := hs HB hb; (try clear hb)))
    go_meet
    case rel => exact ⟨_, ((t176 != 1)), (by first | rfl | (simp; done) | (simp [*]; done)), H', ⟨by first | omega | exact Nat.le_refl _⟩, ⟨pk BK173.out⟩, ⟨bks HB.out⟩⟩
   ·replace c8 := Bool.eq_false_iff.mpr c8
    subst c8
    have H1 : (spec_CyclotomicUnit.j0 k a0 a1 true) = some (r1, r2, r3) := by rw [if_neg (show ¬ (false = true) by decide)] at H; exact H
    clear H
    have H := H1
    clear H1
    have H' := Aside0.mk H
    clear H
    go_wp2_with (first | ((with_reducible refine gate_callee (f := 53) rfl ?_); refine gl (some 9) Try.func53 #[.int .i64 a0, .int .i64 2, .int .i64 16] ?_; (with_reducible refine (spec_l01In.calls a0 2 16 true _ A5.out).mono ?_); rintro e w' ⟨rfl, ⟨nd, rfl⟩⟩; refine ⟨_, rfl, ?_⟩) | (go_at_call 53; (with_reducible refine (spec_l01In.calls a1 1 a0 false _ A7.out).mono ?_); rintro e w' ⟨rfl, ⟨nd, rfl⟩⟩))
    go_meet
    case rel => exact ⟨_, (true), (by first | rfl | (simp; done) | (simp [*]; done)), H', ⟨by first | omega | exact Nat.le_refl _⟩, ⟨pk BK173.out⟩, ⟨bks HB.out⟩⟩
  ·replace c6 := Bool.eq_false_iff.mpr c6
   subst c6
   have H1 : (spec_CyclotomicUnit.j0 k a0 a1 true) = some (r1, r2, r3) := by rw [if_neg (show ¬ (false = true) by decide)] at H; exact H
   clear H
   have H := H1
   clear H1
   have H' := Aside0.mk H
   clear H
   go_wp2_with (first | ((with_reducible refine gate_callee (f := 53) rfl ?_); refine gl (some 9) Try.func53 #[.int .i64 a0, .int .i64 2, .int .i64 16] ?_; (with_reducible refine (spec_l01In.calls a0 2 16 false _ A5.out).mono ?_); rintro e w' ⟨rfl, ⟨nd, rfl⟩⟩; refine ⟨_, rfl, ?_⟩))
   go_meet
   case rel => exact ⟨_, (true), (by first | rfl | (simp; done) | (simp [*]; done)), H', ⟨by first | omega | exact Nat.le_refl _⟩, ⟨pk BK173.out⟩, ⟨bks HB.out⟩⟩
 case rest =>
  clear HC3
  try clear p2; try clear c3; try clear c5; try clear c6; try clear c8
  obtain ⟨kq, x22_2, rfl, HA, HJ2, BK173, HB⟩ := hcut
  cases kq with
  | zero => exact absurd HA.out (by simp [spec_CyclotomicUnit.j0])
  | succ kj2 =>
   have H := HA.out
   clear HA
   simp only [spec_CyclotomicUnit.j0] at H
   by_cases c11 : x22_2 = true
   ·subst c11
    have H1 : (some (0, ([] : List Int), 2)) = some (r1, r2, r3) := by rw [if_pos rfl] at H; exact H
    clear H
    have H := H1
    clear H1
    simp only [Option.some.injEq, Prod.mk.injEq] at H
    obtain ⟨rfl, rfl, rfl⟩ := H
    have hcz12_0 : wc.cell? ⟨gb173, 0, none⟩ = some (.int .i64 0) := (blk_cell BK173.out 0).trans rfl
    have hcz12_1 : wc.cell? ⟨gb173, 1, none⟩ = some (.slice none 0 0) := (blk_cell BK173.out 1).trans rfl
    have hfz12_0 := blk_frozen BK173.out 0
    have hfz12_1 := blk_frozen BK173.out 1
    go_wp2
    refine bodyPost_ret (results_ct rfl _ _ gb173 51 #[.int .i64 0, .slice none 0 0] (0, 0) _ rfl (by (with_reducible repeat (first | refine blk_drewN ?_ _ | refine blk_drew ?_ | refine blk_alloc ?_ _)); refine blk_put (cs := #[.int .i64 0, .slice none 0 0]) ?_ 1 _ rfl; (with_reducible repeat (first | refine blk_drewN ?_ _ | refine blk_drew ?_ | refine blk_alloc ?_ _)); refine blk_put (cs := #[.int .i64 0, .slice none 0 0]) ?_ 0 _ rfl; (with_reducible repeat (first | refine blk_drewN ?_ _ | refine blk_drew ?_ | refine blk_alloc ?_ _)); exact BK173.out) Try.underlying51 rfl (by kernel_rfl)) rfl ?_
    exact ⟨_, by first | rfl | (simp [errW_none, errW_some] <;> rfl) | (simp [*, errW_none, errW_some] <;> rfl), by first | exact Kd.R_nil _ _ _ _ _ | exact Kd.N_nil _ _ _ _ _ | exact Kd.V_nil _ _ _ _ _ | exact Kd.Q_nil _ _ _ _ _ | exact Kd.S_nil _ _ _ _ _, bks HB.out⟩
   ·replace c11 := Bool.eq_false_iff.mpr c11
    subst c11
    have H1 : ((spec_l01Zero.f kj2 a0).bind fun bt177 => (spec_CyclotomicUnit.l0 kj2 a0 a1 0 bt177.1 bt177.2)) = some (r1, r2, r3) := by rw [if_neg (show ¬ (false = true) by decide)] at H; exact H
    clear H
    have H := H1
    clear H1
    replace H := Option.bind_eq_some_iff.mp H
    obtain ⟨⟨t177, t178⟩, A130, H⟩ := H
    try dsimp only at H
    have A13 := Aside0.mk A130
    clear A130
    have H' := Aside0.mk H
    clear H
    go_wp2_with (first | ((with_reducible refine gate_callee (f := 90) rfl ?_); refine gl (some 25) Try.func90 #[.int .i64 a0] ?_; (with_reducible refine (spec_l01Zero.calls kj2 a0 t177 t178 _ A13.out).mono ?_); rintro e w14 ⟨v179, rfl, ho0, hb⟩; refine ⟨_, rfl, ?_⟩; have HO180 := Aside0.mk (Kd.R_lower ho0 (below_size (bks HB.out))); replace BK173 := bb BK173 hb; replace HB := hs HB hb; (try clear hb ho0)) | ((with_reducible refine gate_dst (N := 6) rfl ?_); refine bx 6 #[.int .i64 0, .slice none 0 0] 51 (fun gb181 hg w15 hbox hb => ?_); have BK181 := Aside0.mk hbox; have GW181 := ge HB hg; have GE181 := GW181; obtain ⟨NB173_181, NB181_173⟩ := nb BK173 hg; replace HO180 := rb HO180 hb; replace BK173 := bb BK173 hb; replace HB := hs HB hb; clear hb hbox hg; have hnb16 := NB181_173.out; have hnc16 := NB173_181.out; have hcz17_0 : w15.cell? ⟨gb181, 0, none⟩ = some (.int .i64 0) := (blk_cell BK181.out 0).trans rfl; have hcz17_1 : w15.cell? ⟨gb181, 1, none⟩ = some (.slice none 0 0) := (blk_cell BK181.out 1).trans rfl; have hfz17_0 := blk_frozen BK181.out 0; have hfz17_1 := blk_frozen BK181.out 1; obtain ⟨Ao18, co18, eo18⟩ := Kd.R_slice HO180.out; subst eo18))
    go_loopg [7] kj2 (fun kq v7 w' => ∃ (x7_2 : Int) (x182000_2 : Int) (x182001_2 : List Int) (u182001 : Value), v7 = .int .i64 x7_2 ∧ Aside0 (spec_CyclotomicUnit.l0 kq a0 a1 x7_2 x182000_2 x182001_2 = some (r1, r2, r3)) ∧ Aside0 (kq ≤ kj2) ∧ Aside0 (Kd.R (Kd.int .i64) 2 w' w.heap.size (fun _ => True) u182001 x182001_2) ∧ Aside0 (w'.heap[gb173]? = some (.cells #[.int .i64 0, (.slice none 0 0)] 51 (0, 0))) ∧ Aside0 (w'.heap[gb181]? = some (.cells #[.int .i64 x182000_2, u182001] 51 (0, 0))) ∧ Aside0 (Below w.heap.size w w'))
    case atStart => exact ⟨(0), (t177), (t178), (.slice Ao18 t178.length co18), (by first | rfl | (simp; done) | (simp [*]; done)), H', ⟨Nat.le_refl _⟩, ⟨rxm HO180 (fun _ _ => trivial)⟩, ⟨bf BK173⟩, ⟨by (with_reducible repeat (first | refine blk_drewN ?_ _ | refine blk_drew ?_ | refine blk_alloc ?_ _)); refine blk_put (cs := #[.int .i64 t177, .slice none 0 0]) ?_ 1 _ rfl; (with_reducible repeat (first | refine blk_drewN ?_ _ | refine blk_drew ?_ | refine blk_alloc ?_ _)); refine blk_put (cs := #[.int .i64 0, .slice none 0 0]) ?_ 0 _ rfl; (with_reducible repeat (first | refine blk_drewN ?_ _ | refine blk_drew ?_ | refine blk_alloc ?_ _)); exact BK181.out⟩, ⟨bks HB.out⟩⟩
    case round =>
     clear H'
     try clear c1; try clear p2; try clear c3; try clear c5; try clear c6; try clear c8; try clear c9; try clear c11; try clear c16; try clear hcz12_0; try clear hcz12_1; try clear hcz17_0; try clear hcz17_1; try clear hfz12_0; try clear hfz12_1; try clear hfz17_0; try clear hfz17_1; try clear p2
     obtain ⟨x7_2, x182000_2, x182001_2, u182001, rfl, HA, HK2, HO_182001, BK173, BK181, HB⟩ := hrel
     cases gk with
     | zero => exact absurd HA.out (by simp [spec_CyclotomicUnit.l0])
     | succ k2 =>
      have H := HA.out
      clear HA
      simp only [spec_CyclotomicUnit.l0] at H
      by_cases c19 : x7_2 < a1
      ·rw [if_pos c19] at H
       have c19b0 : decide (x7_2 < a1) = true := decide_eq_true c19
       clear c19
       replace H := Option.bind_eq_some_iff.mp H
       obtain ⟨⟨t182, t183⟩, A200, H⟩ := H
       try dsimp only at H
       have A20 := Aside0.mk A200
       clear A200
       replace H := Option.bind_eq_some_iff.mp H
       obtain ⟨⟨t186, t187⟩, A210, H⟩ := H
       try dsimp only at H
       have A21 := Aside0.mk A210
       clear A210
       have H' := Aside0.mk H
       clear H
       try go_wp2
       replace HO_182001 := rd0 HO_182001
       replace BK173 := bd BK173
       replace BK181 := bd BK181
       replace HB := hd0 HB
       refine start_ (n := 6) (S := fun w' => w'.cell? ⟨gb181, 0, none⟩ = some (.int .i64 x182000_2) ∧ w'.cell? ⟨gb181, 1, none⟩ = some (u182001)) (ds := [5]) #[false, false, false, false, false, false] (by kernel_rfl) rfl rfl ⟨(blk_cell BK181.out 0).trans rfl, (blk_cell BK181.out 1).trans rfl⟩ (fun hHeld => ?_)
       generalize wr.drew = w22 at HO_182001 BK173 BK181 HB hHeld ⊢
       refine pure_ (i := 1) (N := some 32) (v := ?_) (a' := ?_) #[false, true, false, false, false, false] rfl rfl (by kernel_rfl) (fun _ _ _ h => h) (Or.inl ⟨by rfl, ?_⟩) ?_ ?_
       rotate_left
       ·intro w'
        go_simp
        with_reducible rfl
       rotate_left
       ·simp only [Act.put, List.setIfInBounds_toArray, List.set_cons_zero, List.set_cons_succ, i64_w, i32_w]
        rfl
       refine pure_ (i := 2) (N := some 33) (v := ?_) (a' := ?_) #[false, true, true, false, false, false] rfl rfl (by kernel_rfl) (fun _ _ _ h => h) (Or.inl ⟨by rfl, ?_⟩) ?_ ?_
       rotate_left
       ·intro w'
        go_simp
        with_reducible rfl
       rotate_left
       ·simp only [Act.put, List.setIfInBounds_toArray, List.set_cons_zero, List.set_cons_succ, i64_w, i32_w]
        rfl
       refine take_ (i := 0) (N := some 31) (v := ?_) (a' := ?_) #[true, true, true, false, false, false] rfl rfl (by kernel_rfl) (fun _ _ _ h => h) (Or.inl ⟨by rfl, ?_⟩) hHeld ?_ ?_
       rotate_left
       ·rintro w' ⟨s0, s1⟩
        go_simp
        with_reducible rfl
       rotate_left
       ·simp only [Act.put, List.setIfInBounds_toArray, List.set_cons_zero, List.set_cons_succ, i64_w, i32_w]
        rfl
       refine one_ (i := 3) (N := some 34) #[true, true, true, true, false, false] rfl rfl (by kernel_rfl) (by decide) (fun K hK => ?_)
       refine gs Try.func92 #[.int .i64 a0, .int .i64 x7_2] ?_
       with_reducible refine (spec_l01Unit.calls k2 a0 x7_2 t182 t183 _ A20.out).mono ?_
       rintro e w23 ⟨v184, rfl, ho0, hb⟩
       refine ⟨_, rfl, ?_⟩
       have HO185 := Aside0.mk (Kd.R_lower (Kd.R_new' ho0 (Kd.R_lt (rk HO_182001.out))) (below_size (bks HB.out)))
       replace HO_182001 := re HO_182001 ho0 hb
       replace BK173 := bb BK173 hb
       replace BK181 := bb BK181 hb
       replace HB := hs HB hb
       (try clear hb ho0)
       obtain ⟨Ao24, co24, eo24⟩ := Kd.R_slice HO_182001.out
       (first | subst eo24 | (injection eo24 with f1_ f2_ f3_; have f4_ := f1_.symm; have f5_ := f3_.symm; clear f1_ f2_ f3_; subst f4_; subst f5_))
       obtain ⟨Ao25, co25, eo25⟩ := Kd.R_slice HO185.out
       (first | subst eo25 | (injection eo25 with f1_ f2_ f3_; have f4_ := f1_.symm; have f5_ := f3_.symm; clear f1_ f2_ f3_; subst f4_; subst f5_))
       refine hK.out _ _ ⟨(blk_cell BK181.out 0).trans rfl, (blk_cell BK181.out 1).trans rfl⟩ (fun hHeld => ?_)
       clear hK K
       refine nm ?_
       refine one_ (i := 4) (N := some 35) #[true, true, true, true, true, false] rfl rfl (by kernel_rfl) (by decide) (fun K hK => ?_)
       refine gs Try.func91 #[.agg #[.int .i64 x182000_2, .slice Ao24 x182001_2.length co24], .agg #[.int .i64 t182, .slice Ao25 t183.length co25], .int .i64 1] ?_
       with_reducible refine (spec_l01Plus.calls k2 x182000_2 _ _ x182001_2 t182 _ _ t183 1 t186 t187 _ ?side1 ?side2 ?side3 ?side4 A21.out).mono ?_
       (case side1 => repeat (first | exact (Kd.R_reads' HO_182001.out).2.2 | (with_reducible refine Kd.C_alloc ?_ _) | (with_reducible refine Kd.C_drewN ?_ _) | (with_reducible refine Kd.C_drew ?_)))
       (case side2 => exact (Kd.R_reads' HO_182001.out).2.1)
       (case side3 => repeat (first | exact (Kd.R_reads' HO185.out).2.2 | (with_reducible refine Kd.C_alloc ?_ _) | (with_reducible refine Kd.C_drewN ?_ _) | (with_reducible refine Kd.C_drew ?_)))
       (case side4 => exact (Kd.R_reads' HO185.out).2.1)
       rintro e w26 ⟨v188, rfl, ho0, hb⟩
       refine ⟨_, rfl, ?_⟩
       have HO189 := Aside0.mk (Kd.R_lower (Kd.R_new' (Kd.R_new' ho0 (Kd.R_lt (rk HO_182001.out))) (Kd.R_lt (rk HO185.out))) (below_size (bks HB.out)))
       replace HO_182001 := re HO_182001 ho0 hb
       replace HO185 := re HO185 ho0 hb
       replace BK173 := bb BK173 hb
       replace BK181 := bb BK181 hb
       replace HB := hs HB hb
       (try clear hb ho0)
       obtain ⟨Ao28, co28, eo28⟩ := Kd.R_slice HO189.out
       (first | subst eo28 | (injection eo28 with f1_ f2_ f3_; have f4_ := f1_.symm; have f5_ := f3_.symm; clear f1_ f2_ f3_; subst f4_; subst f5_))
       refine hK.out _ _ ⟨(blk_cell BK181.out 0).trans rfl, (blk_cell BK181.out 1).trans rfl⟩ (fun hHeld => ?_)
       clear hK K
       refine nm ?_
       refine last_ (i := 5) (N := none) #[true, true, true, true, true, true] rfl rfl (by kernel_rfl) (by decide) (fun K hK => ?_)
       have hs27 : w26.cell? ⟨gb181, 0, none⟩ = some (.int .i64 x182000_2) := (blk_cell BK181.out 0).trans rfl
       have hfs27 := blk_frozen BK181.out 0
       have hns27_0 := NB173_181.out
       have hms27_0 := NB181_173.out
       have hs29 : w26.cell? ⟨gb181, 1, none⟩ = some (.slice Ao24 x182001_2.length co24) := (blk_cell BK181.out 1).trans rfl
       have hfs29 := blk_frozen BK181.out 1
       have hns29_0 := NB173_181.out
       have hms29_0 := NB181_173.out
       refine skip_ (w1 := ?_) (by rfl) rfl ?_ ?_
       rotate_left
       ·go_simp
        rfl
       refine hK.out _ _ ?_
       clear hK K
       refine done_ (by kernel_rfl) ?_
       try go_wp2
       go_roundg k2
       case measure => have := HJ2.out; have := HK2.out; omega
       case rel => exact ⟨(wrap64 (x7_2 + 1)), (t186), (t187), (.slice Ao28 t187.length co28), (by first | rfl | (simp; done) | (simp [*]; done)), H', ⟨by have := HJ2.out; have := HK2.out; omega⟩, ⟨rxm HO189 (fun _ _ => trivial)⟩, ⟨bf BK173⟩, ⟨by (with_reducible repeat (first | refine blk_drewN ?_ _ | refine blk_drew ?_ | refine blk_alloc ?_ _)); refine blk_put (cs := #[.int .i64 t186, .slice Ao24 x182001_2.length co24]) ?_ 1 _ rfl; (with_reducible repeat (first | refine blk_drewN ?_ _ | refine blk_drew ?_ | refine blk_alloc ?_ _)); refine blk_put (cs := #[.int .i64 x182000_2, .slice Ao24 x182001_2.length co24]) ?_ 0 _ rfl; (with_reducible repeat (first | refine blk_drewN ?_ _ | refine blk_drew ?_ | refine blk_alloc ?_ _)); exact BK181.out⟩, ⟨bks HB.out⟩⟩
      ·rw [if_neg c19] at H
       have c19b0 : decide (x7_2 < a1) = false := decide_eq_false c19
       clear c19
       simp only [Option.some.injEq, Prod.mk.injEq] at H
       obtain ⟨rfl, rfl, rfl⟩ := H
       have hnb30 := NB181_173.out
       have hnc30 := NB173_181.out
       have hcz31_0 : wr.cell? ⟨gb181, 0, none⟩ = some (.int .i64 x182000_2) := (blk_cell BK181.out 0).trans rfl
       have hcz31_1 : wr.cell? ⟨gb181, 1, none⟩ = some (u182001) := (blk_cell BK181.out 1).trans rfl
       have hfz31_0 := blk_frozen BK181.out 0
       have hfz31_1 := blk_frozen BK181.out 1
       have hcz32_0 : wr.cell? ⟨gb173, 0, none⟩ = some (.int .i64 0) := (blk_cell BK173.out 0).trans rfl
       have hcz32_1 : wr.cell? ⟨gb173, 1, none⟩ = some (.slice none 0 0) := (blk_cell BK173.out 1).trans rfl
       have hfz32_0 := blk_frozen BK173.out 0
       have hfz32_1 := blk_frozen BK173.out 1
       obtain ⟨Ao33, co33, eo33⟩ := Kd.R_slice HO_182001.out
       subst eo33
       go_wp2
       refine bodyPost_ret (results_ct rfl _ _ gb173 51 #[.int .i64 x182000_2, .slice Ao33 x182001_2.length co33] (0, 0) _ rfl (by (with_reducible repeat (first | refine blk_drewN ?_ _ | refine blk_drew ?_ | refine blk_alloc ?_ _)); refine blk_put (cs := #[.int .i64 x182000_2, .slice none 0 0]) ?_ 1 _ rfl; (with_reducible repeat (first | refine blk_drewN ?_ _ | refine blk_drew ?_ | refine blk_alloc ?_ _)); refine blk_put (cs := #[.int .i64 0, .slice none 0 0]) ?_ 0 _ rfl; (with_reducible repeat (first | refine blk_drewN ?_ _ | refine blk_drew ?_ | refine blk_alloc ?_ _)); exact BK173.out) Try.underlying51 rfl (by kernel_rfl)) rfl ?_
       exact ⟨_, by first | rfl | (simp [errW_none, errW_some] <;> rfl) | (simp [*, errW_none, errW_some] <;> rfl), by (with_reducible repeat (first | apply Kd.R_alloc | apply Kd.R_drewN | apply Kd.R_drew)); exact Kd.R_mono (Kd.R_far (p := ⟨gb173, 1, none⟩) (Kd.R_far (p := ⟨gb173, 0, none⟩) (Kd.R_types HO_182001.out BK173.out (by decide)) (fun _ hk => hk.2) (.int .i64 x182000_2)) (fun _ hk => hk.2) (.slice Ao33 x182001_2.length co33)) (fun _ hk => trivial), bks HB.out⟩

end Go.Proofs.Ythkdkiifchefhaa.PFnExactCyclotomicUnit
