-- LAID BY pp.py (a program of this repo): what the kit's print tells of this seat's functions, with contracts by hand
import Derived.Test.YtdnpkbhapdkikaaZPFnExactActOnCyclox0
import Derived.Test.YtdnpkbhapdkikaaZPFnExactActOnCyclox7
import Derived.Test.YtdnpkbhapdkikaaZPFnExactActOnCyclox8
namespace Go.Proofs.Ytdnpkbhapdkikaa.PFnExactActOnCyclo
open Go.RowKit Go.Proofs.YtdnpkbhapdkikaaW.PrintWords Go.Proofs.YtdnpkbhapdkikaaW.PrintLast Go.Proofs.YtdnpkbhapdkikaaW.PrintMore
attribute [local go_sem] max2_int min2_int max_two min_two max_three min_three max_four min_four   -- for this text's walks alone
set_option linter.unusedVariables false
set_option linter.unusedSimpArgs false

/-! ### impl_powers, BY HAND: function 177 -/
mutual
def impl_powers.l0 : Nat → List Int → Int → List Int → List (List Int) → Int → Int → Option ((List (List Int)))
  | 0, _, _, _, _, _, _ => none
  | k + 1, x3, x4, x5, x6, x23, x24 => if x24 < x23 then ((slices_Clone_int64_int64.f x5).bind fun t231 => (if x6.length < 5864062014805 then (if 0 ≤ (wrap64 (x4 - 1)) then (if (wrap64 (x4 - 1)) < (x5.length : Int) then (if 0 < (x5.length : Int) then (impl_powers.l1 k x3 x4 ((shiftl x5).set (0 : Int).toNat 0) (x6 ++ [t231]) (rd x5 (wrap64 (x4 - 1))) x23 x24 (x5.length : Int) 0) else (none)) else (none)) else (none)) else (none))) else (some x6)
def impl_powers.l1 : Nat → List Int → Int → List Int → List (List Int) → Int → Int → Int → Int → Int → Option ((List (List Int)))
  | 0, _, _, _, _, _, _, _, _, _ => none
  | k + 1, x3, x4, x5, x6, x7, x23, x24, x46, x47 => if x47 < x46 then (if 0 ≤ x47 then (if x47 < (x5.length : Int) then (if x47 < (x3.length : Int) then (impl_powers.l1 k x3 x4 (x5.set (x47 : Int).toNat (wrap64 ((rd x5 x47) - (wrap64 (x7 * (rd x3 x47)))))) x6 x7 x23 x24 x46 (wrap64 (x47 + 1))) else (none)) else (none)) else (none)) else (impl_powers.l0 k x3 x4 x5 x6 x23 (wrap64 (x24 + 1)))
end
def impl_powers.f (k : Nat) (a0 : Int) : Option ((List (List Int))) := (impl_cyclotomic.f k a0).bind fun t218 => (if 0 ≤ (wrap64 ((t218.length : Int) - 1)) then (if (wrap64 ((t218.length : Int) - 1) : Int).toNat ≤ 35184372088832 then ((some (List.replicate (wrap64 ((t218.length : Int) - 1) : Int).toNat 0 : List Int)).bind fun y221 => (if 0 < (y221.length : Int) then ((some (y221.set (0 : Int).toNat 1 : List Int)).bind fun y224 => (if a0 = 1 then (some (([y224] : List (List Int)))) else (impl_powers.l0 k t218 (wrap64 ((t218.length : Int) - 1)) y224 (([] : List (List Int))) a0 0))) else (none))) else (none)) else (none))
theorem impl_powers.mono_l : ∀ k, (∀ y0 y1 y2 y3 y4 y5, LeO (impl_powers.l0 k y0 y1 y2 y3 y4 y5) (impl_powers.l0 (k + 1) y0 y1 y2 y3 y4 y5)) ∧ (∀ y0 y1 y2 y3 y4 y5 y6 y7 y8, LeO (impl_powers.l1 k y0 y1 y2 y3 y4 y5 y6 y7 y8) (impl_powers.l1 (k + 1) y0 y1 y2 y3 y4 y5 y6 y7 y8))
  | 0 => ⟨fun _ _ _ _ _ _ r h => by simp [impl_powers.l0] at h, fun _ _ _ _ _ _ _ _ _ r h => by simp [impl_powers.l1] at h⟩
  | k + 1 => by
    obtain ⟨ih0, ih1⟩ := impl_powers.mono_l k
    refine ⟨?_, ?_⟩
    · intro y0 y1 y2 y3 y4 y5
      unfold impl_powers.l0
      repeat' first | (with_reducible first | exact ih0 _ _ _ _ _ _ | exact ih1 _ _ _ _ _ _ _ _ _ | exact impl_cyclotomic.mono _ _ | exact LeO.refl _ | exact LeO.none _ | refine LeO.ite ?_ ?_ | refine LeO.bind ?_ (fun _ => ?_)) | exact ih0 _ _ _ _ _ _ | exact ih1 _ _ _ _ _ _ _ _ _ | exact LeO.none _ | refine LeO.ite ?_ ?_ | refine LeO.bind ?_ (fun _ => ?_)
    · intro y0 y1 y2 y3 y4 y5 y6 y7 y8
      unfold impl_powers.l1
      repeat' first | (with_reducible first | exact ih0 _ _ _ _ _ _ | exact ih1 _ _ _ _ _ _ _ _ _ | exact impl_cyclotomic.mono _ _ | exact LeO.refl _ | exact LeO.none _ | refine LeO.ite ?_ ?_ | refine LeO.bind ?_ (fun _ => ?_)) | exact ih0 _ _ _ _ _ _ | exact ih1 _ _ _ _ _ _ _ _ _ | exact LeO.none _ | refine LeO.ite ?_ ?_ | refine LeO.bind ?_ (fun _ => ?_)
theorem impl_powers.mono : ∀ a0 k, LeO (impl_powers.f k a0) (impl_powers.f (k + 1) a0) := by
  intro a0 k
  obtain ⟨ih0, ih1⟩ := impl_powers.mono_l k
  unfold impl_powers.f
  repeat' first | (with_reducible first | exact ih0 _ _ _ _ _ _ | exact ih1 _ _ _ _ _ _ _ _ _ | exact impl_cyclotomic.mono _ _ | exact LeO.refl _ | exact LeO.none _ | refine LeO.ite ?_ ?_ | refine LeO.bind ?_ (fun _ => ?_)) | exact ih0 _ _ _ _ _ _ | exact ih1 _ _ _ _ _ _ _ _ _ | exact LeO.none _ | refine LeO.ite ?_ ?_ | refine LeO.bind ?_ (fun _ => ?_)
def impl_powers.T12 : Bool × List (List Nat × List Nat) := (true, [([], []), ([0], [0]), ([], []), ([], []), ([3], [3]), ([2, 4], [2, 4]), ([1, 5], [1, 5])])
def impl_powers.B12 : List Nat := [0, 1, 0, 0, 8, 28, 63]
theorem impl_powers.tab12 : rtab .any (opsOf Try.f177 12) = impl_powers.T12 := by kernel_rfl
theorem impl_powers.bits12 : waitsOk impl_powers.T12.2 impl_powers.B12 = true := by kernel_rfl
def impl_powers.T17 : Bool × List (List Nat × List Nat) := (true, [([], []), ([], []), ([0, 1], [0, 1]), ([2], [2]), ([], []), ([], []), ([], []), ([5, 6], [5, 6]), ([7], [7]), ([4, 8], [4, 8]), ([3, 9], [3, 9]), ([0, 1, 0, 1, 2, 3, 4, 5, 6, 7, 8, 9, 10], [0, 1]), ([11, 10, 0, 1, 2, 3, 4, 5, 6, 7, 8, 9, 10], [10, 11])])
def impl_powers.B17 : List Nat := [0, 0, 3, 7, 0, 0, 0, 96, 224, 496, 1023, 2047, 4095]
theorem impl_powers.tab17 : rtab .any (opsOf Try.f177 17) = impl_powers.T17 := by kernel_rfl
theorem impl_powers.bits17 : waitsOk impl_powers.T17.2 impl_powers.B17 = true := by kernel_rfl
set_option maxHeartbeats 8000000 in
set_option maxRecDepth 100000 in
theorem impl_powers.calls (k : Nat) (a0 : Int) (r : List (List Int)) (w : World) (h : impl_powers.f k a0 = some r) :
    Calls Try.prog 177 #[.int .i64 a0] w fun e w' => ∃ v0_ : Value, e = .returned (v0_) ∧ Kd.N (Kd.slice 2 (Kd.int .i64)) 22 w' w.heap.size (fun k_ => (w.heap.size ≤ k_)) v0_ r ∧ Below w.heap.size w w' := by
  have HB := Aside0.mk (Below.refl w.heap.size w)
  have H := h
  unfold impl_powers.f at H
  clear h
  replace H := Option.bind_eq_some_iff.mp H
  obtain ⟨t218, A20, H⟩ := H
  try dsimp only at H
  have A2 := Aside0.mk A20
  clear A20
  obtain ⟨ji3, hji3⟩ : ∃ j_ : Int, (wrap64 ((t218.length : Int) - 1)) = j_ := ⟨_, rfl⟩
  replace H : (if 0 ≤ (ji3) then (if (ji3 : Int).toNat ≤ 35184372088832 then ((some (List.replicate (ji3 : Int).toNat 0 : List Int)).bind fun y221 => (if 0 < (y221.length : Int) then ((some (y221.set (0 : Int).toNat 1 : List Int)).bind fun y224 => (if a0 = 1 then (some (([y224] : List (List Int)))) else (impl_powers.l0 k t218 ji3 y224 (([] : List (List Int))) a0 0))) else (none))) else (none)) else (none)) = some r := by first | (rw [hji3] at H; exact H) | (simp only [hji3] at H ⊢; exact H)
  (try rw [hji3] at A2)
  have hji3w : (IntKind.i64.wrap ((t218.length : Int) - 1)) = ji3 := (i64_w _).trans hji3
  by_cases c4 : 0 ≤ (ji3)
  rotate_left
  · rw [if_neg c4] at H; exact absurd H (by simp)
  rw [if_pos c4] at H
  have c4b0 := eq_true c4
  have c4b1 : decide (0 ≤ (ji3)) = true := decide_eq_true c4
  clear c4
  by_cases c5 : (ji3 : Int).toNat ≤ 35184372088832
  rotate_left
  · rw [if_neg c5] at H; exact absurd H (by simp)
  rw [if_pos c5] at H
  have c5b0 := eq_true c5
  have c5b1 : decide ((ji3 : Int).toNat ≤ 35184372088832) = true := decide_eq_true c5
  clear c5
  obtain ⟨y221, hy221⟩ : ∃ y_ : List Int, y_ = (List.replicate (ji3 : Int).toNat 0) := ⟨_, rfl⟩
  replace H : (if 0 < (y221.length : Int) then ((some (y221.set (0 : Int).toNat 1 : List Int)).bind fun y224 => (if a0 = 1 then (some (([y224] : List (List Int)))) else (impl_powers.l0 k t218 ji3 y224 (([] : List (List Int))) a0 0))) else (none)) = some r := by first | (rw [hy221]; with_reducible exact H) | (have H2_ := (Option.bind_some _ _).symm.trans H; rw [hy221]; with_reducible exact H2_) | (have H2_ := (Option.bind_some _ _).symm.trans H; with_reducible exact H2_) | with_reducible exact H | (rw [hy221]; exact H) | exact H
  have Ny221 := Aside0.mk hy221
  clear hy221
  by_cases c6 : 0 < (y221.length : Int)
  rotate_left
  · rw [if_neg c6] at H; exact absurd H (by simp)
  rw [if_pos c6] at H
  have c6b0 : decide (0 < (y221.length : Int)) = true := decide_eq_true c6
  have c6b1 : decide (0 < y221.length) = true := decide_eq_true (by omega)
  clear c6
  obtain ⟨y224, hy224⟩ : ∃ y_ : List Int, y_ = (y221.set (0 : Int).toNat 1) := ⟨_, rfl⟩
  replace H : (if a0 = 1 then (some (([y224] : List (List Int)))) else (impl_powers.l0 k t218 ji3 y224 (([] : List (List Int))) a0 0)) = some r := by first | (rw [hy224]; with_reducible exact H) | (have H2_ := (Option.bind_some _ _).symm.trans H; rw [hy224]; with_reducible exact H2_) | (have H2_ := (Option.bind_some _ _).symm.trans H; with_reducible exact H2_) | with_reducible exact H | (rw [hy224]; exact H) | exact H
  have Ny224 := Aside0.mk hy224
  clear hy224
  by_cases c8 : a0 = 1
  · rw [if_pos c8] at H
    have c8b0 : (a0 == 1) = true := beq_iff_eq.mpr c8
    have c8b1 : (a0 != 1) = false := bne_eq_false_iff_eq.mpr c8
    clear c8
    obtain ⟨y225, hy225⟩ : ∃ y_ : List (List Int), y_ = (([y224] : List (List Int))) := ⟨_, rfl⟩
    replace H : (some y225) = some r := by first | (rw [hy225]; with_reducible exact H) | (have H2_ := (Option.bind_some _ _).symm.trans H; rw [hy225]; with_reducible exact H2_) | (have H2_ := (Option.bind_some _ _).symm.trans H; with_reducible exact H2_) | with_reducible exact H | (rw [hy225]; exact H) | exact H
    have Ny225 := Aside0.mk hy225
    clear hy225
    obtain rfl := Option.some.inj H
    go_enter Try.func177, Try.ntmps177
    go_wp2_with (first | ((with_reducible refine gate_callee (f := 193) rfl ?_); refine gl (some 10) Try.func193 #[.int .i64 a0] ?_; (with_reducible refine (impl_cyclotomic.calls k a0 t218 _ A2.out).mono ?_); rintro e w9 ⟨v219, rfl, ho0, hb⟩; refine ⟨_, rfl, ?_⟩; have HO220 := Aside0.mk (Kd.R_lower (Kd.R_newM (M := fun k_ => (w.heap.size ≤ k_)) ho0 (below_size (bk HB.out)) (fun k_ h_ => h_)) (below_size (bk HB.out))); replace HB := hs HB hb; (try clear hb ho0); obtain ⟨Ao10, co10, eo10⟩ := Kd.R_slice HO220.out; subst eo10) | ((with_reducible refine gate_dst (N := 15) rfl ?_); refine Kd.R_make (Kd.int .i64) _ 2 rfl (N := 15) rfl 22 _ _ rfl ji3 rfl rfl Try.underlying22 (.int .i64 0) 8 info2 rfl (by decide) (by omega) 0 (ok := fun _ => True) (okp := fun _ => True) rfl (fun _ hk => hk) trivial (of_decide_eq_true (by first | (with_reducible assumption) | assumption)) (Nat.le_trans (Nat.mul_le_mul_right _ (of_decide_eq_true (by first | (with_reducible assumption) | assumption) : ji3.toNat ≤ 35184372088832)) (by omega)) (Below.refl _ _) (Nat.le_refl _) ?_; intro v222 w11 ho12 hb hg_ hnew_; clear hg_ hnew_; (first | rw [← Ny221.out] at ho12 | (simp only [Int.reduceToNat] at ho12; rw [← Ny221.out] at ho12)); have HO223 := Aside0.mk (Kd.R_lower (Kd.R_new' (Kd.R_newM (M := fun k_ => (w.heap.size ≤ k_)) ho12 (below_size (bk HB.out)) (fun k_ h_ => h_)) (Kd.R_lt (rk HO220.out))) (below_size (bk HB.out))); replace HO220 := re HO220 ho12 hb; replace HB := hs HB hb; clear hb ho12; have p7 : 0 ≤ (0 : Int) := (by omega); have q7 : (0 : Int) < ((y221.length : Int) : Int) := of_decide_eq_true (by first | (with_reducible assumption) | assumption); have qi7 : (0 < y221.length) = True := eq_true (by omega); obtain ⟨go7, co7, eo7, gb7, gl7, cl7, HG7⟩ := Kd.R_form HO223.out (by omega); (first | cases eo7 | (injection eo7 with ea_ en_ ec_; (first | subst ea_ | (injection ea_ with ea_; subst ea_)); subst ec_; clear en_)); have GB7 := Aside0.mk gb7; have GG7 := Aside0.mk HG7; clear gb7 gl7 HG7; obtain ⟨hx7_0, hf7_0⟩ := Kd.R_celln 0 HO223.out (0 : Int) p7 q7; (try rw [show ((0 : Int)).toNat = 0 from rfl] at hx7_0); (try simp only [Nat.reduceMul, Nat.zero_mul, Nat.zero_add, Nat.reduceAdd] at hx7_0); (try rw [show ((0 : Int)).toNat = 0 from rfl] at hf7_0); (try simp only [Nat.reduceMul, Nat.zero_mul, Nat.zero_add, Nat.reduceAdd] at hf7_0); replace p7 := eq_true p7; replace q7 := eq_true q7; have n_ := Aside0.mk (Kd.R_mono (ok' := (fun k_ => (w.heap.size ≤ k_) ∧ some k_ ≠ (.slice Ao10 t218.length co10 : Value).ownBlock)) HO223.out (fun k_ hk => ⟨hk.1.1, hk.2⟩)); clear HO223; have HO223 := n_; clear n_; obtain ⟨hy13_, hz13_⟩ := Kd.R_celln 0 HO223.out (0 : Int) (by omega) (of_decide_eq_true (by first | (with_reducible assumption) | assumption)); (try simp only [Int.reduceToNat, Int.toNat_zero, Int.toNat_ofNat, Nat.reduceMul, Nat.zero_mul, Nat.zero_add] at hy13_ hz13_); (try rw [show ((0 : Int)).toNat = 0 from rfl] at hy13_); (try rw [show ((0 : Int)).toNat = 0 from rfl] at hz13_); have HP13 := Kd.R_putg HO223.out (0 : Int) 1) | ((with_reducible refine gate_store (t := 2) (p := 17) rfl ?_); refine store_event (t := 2) (p := 17) (v := ?vo_w14) (w1 := (w11.setCell ⟨go7, (0 : Int).toNat, none⟩ (.int .i64 1))) ?hg ?ho ?hn ?hr ?_; (case ho => rfl); (case hg => rfl); (case hn => rfl); (case hr => first | (go_simp; done) | (go_simp; rfl)); intro w14 hw; have hg : w11.grownBy w14 (some go7) := (by rw [hw]; exact HP13.2); have hp_ : Kd.R (Kd.int .i64) 2 w14 w.heap.size (fun k_ => (w.heap.size ≤ k_) ∧ some k_ ≠ (.slice Ao10 t218.length co10 : Value).ownBlock) (.slice (some ⟨go7, 0, none⟩) y221.length co7) y224 := (by rw [hw, Ny224.out]; exact HP13.1); clear HP13; replace HO220 := Aside0.mk (Kd.R_after (v := (.slice (some ⟨go7, 0, none⟩) y221.length co7)) (v1 := (.slice (some ⟨go7, 0, none⟩) y221.length co7)) (ok := (fun k_ => (w.heap.size ≤ k_))) (rk (Kd.R_mono HO220.out (fun _ hk => ⟨hk.1.1, hk.2⟩))) hg (.inl rfl)); replace HO223 := Aside0.mk hp_; replace HB := Aside0.mk (by rw [hw]; exact below_set (HB.out) GB7.out : Below w.heap.size w w14); clear hg hw hp_) | ((with_reducible refine gate_dst (N := 21) rfl ?_); refine Kd.N_lit (Kd.slice 2 (Kd.int .i64)) _ 22 ?hg (N' := 21) ?hd (xs := ([y224] : List (List Int))) (inner := [.slice (some ⟨go7, 0, none⟩) y221.length co7]) (ok := (fun k_ => (w.heap.size ≤ k_) ∧ some k_ ≠ (.slice Ao10 t218.length co10 : Value).ownBlock)) (okp := (fun k_ => (w.heap.size ≤ k_) ∧ some k_ ≠ (.slice Ao10 t218.length co10 : Value).ownBlock)) ?hr ?hp (fun _ hk => hk) ((show ∀ k_, w14.heap.size ≤ k_ → (fun k_ => (w.heap.size ≤ k_) ∧ some k_ ≠ (.slice Ao10 t218.length co10 : Value).ownBlock) k_ from fun k_ hk => ⟨(Nat.le_trans (below_size (bk HB.out)) hk), Kd.fresh' (Kd.R_lt (rk HO220.out)) k_ hk⟩) _ (Nat.le_refl _)) (Below.refl _ _) (Nat.le_refl _) (by simp) ?_; (case hd => rfl); (case hg => rfl); (case hr => first | (go_simp; done) | (go_simp; rfl)); (case hp => exact (Reps.one (show Kd.FK (Kd.slice 2 (Kd.int .i64)) _ _ y224 [.slice (some ⟨go7, 0, none⟩) y221.length co7] from (by have h_ := HO223.out; have e_ := (Kd.R_reads' h_).1; rw [e_] at h_ ⊢; exact Kd.FK_slice_mk (Kd.R_reads' h_).2.1 (Kd.R_F (Kd.R_mono h_ (fun k_ hk => ⟨hk.1, hk.2⟩))))) (Reps.none _ _))); intro v226 w15 ho16 hb hg_ hnew_; clear hg_ hnew_; (first | rw [← Ny225.out] at ho16 | (simp only [Int.reduceToNat] at ho16; rw [← Ny225.out] at ho16)); have HO227 := Aside0.mk (Kd.N_lower ho16 (below_size (bk HB.out))); replace HO220 := rb HO220 hb; replace HB := hs HB hb; clear HO223 hb ho16))
    go_ret
    exact ⟨_, by first | rfl | (simp [errW_none, errW_some] <;> rfl) | (simp only [← hji3]; first | rfl | (simp [errW_none, errW_some] <;> rfl)) | (simp [*, errW_none, errW_some] <;> rfl), by (with_reducible repeat (first | apply Kd.N_alloc | apply Kd.N_drewN | apply Kd.N_drew)); exact Kd.N_mono HO227.out (fun _ hk => hk.1), bk HB.out⟩
  · rw [if_neg c8] at H
    have c8b0 : (a0 == 1) = false := beq_eq_false_iff_ne.mpr c8
    have c8b1 : (a0 != 1) = true := bne_iff_ne.mpr c8
    obtain ⟨y228, hy228⟩ : ∃ y_ : List (List Int), y_ = (([] : List (List Int))) := ⟨_, rfl⟩
    replace H : (impl_powers.l0 k t218 ji3 y224 y228 a0 0) = some r := by first | (rw [hy228]; with_reducible exact H) | (have H2_ := (Option.bind_some _ _).symm.trans H; rw [hy228]; with_reducible exact H2_) | (have H2_ := (Option.bind_some _ _).symm.trans H; with_reducible exact H2_) | with_reducible exact H | (rw [hy228]; exact H) | exact H
    have Ny228 := Aside0.mk hy228
    clear hy228
    have H' := Aside0.mk H
    clear H
    go_enter Try.func177, Try.ntmps177
    go_wp2_with (first | ((with_reducible refine gate_callee (f := 193) rfl ?_); refine gl (some 10) Try.func193 #[.int .i64 a0] ?_; (with_reducible refine (impl_cyclotomic.calls k a0 t218 _ A2.out).mono ?_); rintro e w17 ⟨v219, rfl, ho0, hb⟩; refine ⟨_, rfl, ?_⟩; have HO220 := Aside0.mk (Kd.R_lower (Kd.R_newM (M := fun k_ => (w.heap.size ≤ k_)) ho0 (below_size (bk HB.out)) (fun k_ h_ => h_)) (below_size (bk HB.out))); replace HB := hs HB hb; (try clear hb ho0); obtain ⟨Ao18, co18, eo18⟩ := Kd.R_slice HO220.out; subst eo18) | ((with_reducible refine gate_dst (N := 15) rfl ?_); refine Kd.R_make (Kd.int .i64) _ 2 rfl (N := 15) rfl 22 _ _ rfl ji3 rfl rfl Try.underlying22 (.int .i64 0) 8 info2 rfl (by decide) (by omega) 0 (ok := fun _ => True) (okp := fun _ => True) rfl (fun _ hk => hk) trivial (of_decide_eq_true (by first | (with_reducible assumption) | assumption)) (Nat.le_trans (Nat.mul_le_mul_right _ (of_decide_eq_true (by first | (with_reducible assumption) | assumption) : ji3.toNat ≤ 35184372088832)) (by omega)) (Below.refl _ _) (Nat.le_refl _) ?_; intro v222 w19 ho20 hb hg_ hnew_; clear hg_ hnew_; (first | rw [← Ny221.out] at ho20 | (simp only [Int.reduceToNat] at ho20; rw [← Ny221.out] at ho20)); have HO223 := Aside0.mk (Kd.R_lower (Kd.R_new' (Kd.R_newM (M := fun k_ => (w.heap.size ≤ k_)) ho20 (below_size (bk HB.out)) (fun k_ h_ => h_)) (Kd.R_lt (rk HO220.out))) (below_size (bk HB.out))); replace HO220 := re HO220 ho20 hb; replace HB := hs HB hb; clear hb ho20; have p7 : 0 ≤ (0 : Int) := (by omega); have q7 : (0 : Int) < ((y221.length : Int) : Int) := of_decide_eq_true (by first | (with_reducible assumption) | assumption); have qi7 : (0 < y221.length) = True := eq_true (by omega); obtain ⟨go7, co7, eo7, gb7, gl7, cl7, HG7⟩ := Kd.R_form HO223.out (by omega); (first | cases eo7 | (injection eo7 with ea_ en_ ec_; (first | subst ea_ | (injection ea_ with ea_; subst ea_)); subst ec_; clear en_)); have GB7 := Aside0.mk gb7; have GG7 := Aside0.mk HG7; clear gb7 gl7 HG7; obtain ⟨hx7_0, hf7_0⟩ := Kd.R_celln 0 HO223.out (0 : Int) p7 q7; (try rw [show ((0 : Int)).toNat = 0 from rfl] at hx7_0); (try simp only [Nat.reduceMul, Nat.zero_mul, Nat.zero_add, Nat.reduceAdd] at hx7_0); (try rw [show ((0 : Int)).toNat = 0 from rfl] at hf7_0); (try simp only [Nat.reduceMul, Nat.zero_mul, Nat.zero_add, Nat.reduceAdd] at hf7_0); replace p7 := eq_true p7; replace q7 := eq_true q7; have n_ := Aside0.mk (Kd.R_mono (ok' := (fun k_ => (w.heap.size ≤ k_) ∧ some k_ ≠ (.slice Ao18 t218.length co18 : Value).ownBlock)) HO223.out (fun k_ hk => ⟨hk.1.1, hk.2⟩)); clear HO223; have HO223 := n_; clear n_; obtain ⟨hy21_, hz21_⟩ := Kd.R_celln 0 HO223.out (0 : Int) (by omega) (of_decide_eq_true (by first | (with_reducible assumption) | assumption)); (try simp only [Int.reduceToNat, Int.toNat_zero, Int.toNat_ofNat, Nat.reduceMul, Nat.zero_mul, Nat.zero_add] at hy21_ hz21_); (try rw [show ((0 : Int)).toNat = 0 from rfl] at hy21_); (try rw [show ((0 : Int)).toNat = 0 from rfl] at hz21_); have HP21 := Kd.R_putg HO223.out (0 : Int) 1) | ((with_reducible refine gate_store (t := 2) (p := 17) rfl ?_); refine store_event (t := 2) (p := 17) (v := ?vo_w22) (w1 := (w19.setCell ⟨go7, (0 : Int).toNat, none⟩ (.int .i64 1))) ?hg ?ho ?hn ?hr ?_; (case ho => rfl); (case hg => rfl); (case hn => rfl); (case hr => first | (go_simp; done) | (go_simp; rfl)); intro w22 hw; have hg : w19.grownBy w22 (some go7) := (by rw [hw]; exact HP21.2); have hp_ : Kd.R (Kd.int .i64) 2 w22 w.heap.size (fun k_ => (w.heap.size ≤ k_) ∧ some k_ ≠ (.slice Ao18 t218.length co18 : Value).ownBlock) (.slice (some ⟨go7, 0, none⟩) y221.length co7) y224 := (by rw [hw, Ny224.out]; exact HP21.1); clear HP21; replace HO220 := Aside0.mk (Kd.R_after (v := (.slice (some ⟨go7, 0, none⟩) y221.length co7)) (v1 := (.slice (some ⟨go7, 0, none⟩) y221.length co7)) (ok := (fun k_ => (w.heap.size ≤ k_))) (rk (Kd.R_mono HO220.out (fun _ hk => ⟨hk.1.1, hk.2⟩))) hg (.inl rfl)); replace HO223 := Aside0.mk hp_; replace HB := Aside0.mk (by rw [hw]; exact below_set (HB.out) GB7.out : Below w.heap.size w w22); clear hg hw hp_) | ((with_reducible refine gate_dst (N := 22) rfl ?_); refine Kd.N_lit (Kd.slice 2 (Kd.int .i64)) _ 22 ?hg (N' := 22) ?hd (xs := ([] : List (List Int))) (inner := []) (ok := (fun k_ => (w.heap.size ≤ k_) ∧ some k_ ≠ (.slice Ao18 t218.length co18 : Value).ownBlock ∧ some k_ ≠ (.slice (some ⟨go7, 0, none⟩) y221.length co7 : Value).ownBlock)) (okp := (fun k_ => (w.heap.size ≤ k_) ∧ some k_ ≠ (.slice Ao18 t218.length co18 : Value).ownBlock ∧ some k_ ≠ (.slice (some ⟨go7, 0, none⟩) y221.length co7 : Value).ownBlock)) ?hr ?hp (fun _ hk => hk) ((show ∀ k_, w22.heap.size ≤ k_ → (fun k_ => (w.heap.size ≤ k_) ∧ some k_ ≠ (.slice Ao18 t218.length co18 : Value).ownBlock ∧ some k_ ≠ (.slice (some ⟨go7, 0, none⟩) y221.length co7 : Value).ownBlock) k_ from fun k_ hk => ⟨(Nat.le_trans (below_size (bk HB.out)) hk), Kd.fresh' (Kd.R_lt (rk HO220.out)) k_ hk, Kd.fresh' (Kd.R_lt (rk HO223.out)) k_ hk⟩) _ (Nat.le_refl _)) (Below.refl _ _) (Nat.le_refl _) (by simp) ?_; (case hd => rfl); (case hg => rfl); (case hr => first | (go_simp; done) | (go_simp; rfl)); (case hp => exact (Reps.none _ _)); intro v229 w23 ho24 hb hg_ hnew_; clear hg_ hnew_; (first | rw [← Ny228.out] at ho24 | (simp only [Int.reduceToNat] at ho24; rw [← Ny228.out] at ho24)); have HO230 := Aside0.mk (Kd.N_lower ho24 (below_size (bk HB.out))); replace HO220 := rb HO220 hb; replace HO223 := rb HO223 hb; replace HB := hs HB hb; clear hb ho24))
    go_loopg [6, 24] k (fun kq v6 v24 w' => ∃ (x5_1 : List Int) (x6_1 : List (List Int)) (x24_1 : Int), v24 = .int .i64 x24_1 ∧ Aside0 (impl_powers.l0 kq t218 ji3 x5_1 x6_1 a0 x24_1 = some r) ∧ Aside0 (kq ≤ k) ∧ Aside0 (Kd.R (Kd.int .i64) 2 w' w.heap.size (fun k_ => (w.heap.size ≤ k_) ∧ some k_ ≠ ((.slice (some ⟨go7, 0, none⟩) y221.length co7) : Value).ownBlock) (.slice Ao18 t218.length co18) t218) ∧ Aside0 (Kd.R (Kd.int .i64) 2 w' w.heap.size (fun k_ => (w.heap.size ≤ k_) ∧ some k_ ≠ ((.slice Ao18 t218.length co18) : Value).ownBlock) (.slice (some ⟨go7, 0, none⟩) y221.length co7) x5_1) ∧ Aside0 (Kd.N (Kd.slice 2 (Kd.int .i64)) 22 w' w.heap.size (fun k_ => (w.heap.size ≤ k_) ∧ some k_ ≠ ((.slice Ao18 t218.length co18) : Value).ownBlock ∧ some k_ ≠ ((.slice (some ⟨go7, 0, none⟩) y221.length co7) : Value).ownBlock) v6 x6_1) ∧ Aside0 (Below w.heap.size w w'))
    case atStart => exact ⟨(y224), (y228), (0), (by first | rfl | (simp; done) | (simp [*]; done)), H', ⟨Nat.le_refl _⟩, ⟨rk HO220.out⟩, ⟨rk HO223.out⟩, ⟨by (with_reducible repeat (first | apply Kd.N_alloc | apply Kd.N_drewN | apply Kd.N_drew)); exact HO230.out⟩, ⟨bk HB.out⟩⟩
    case round =>
      clear H'
      try clear c1; try clear p2; try clear c4; try clear c4b0; try clear c4b1; try clear c5; try clear c5b0; try clear c5b1; try clear c6; try clear c6b0; try clear c6b1; try clear p6; try clear p7; try clear q7; try clear hx7; try clear qi7; try clear hf7; try clear c8; try clear c8b0; try clear c8b1; try clear c12; try clear hx7_0; try clear p7; try clear q7
      obtain ⟨x5_1, x6_1, x24_1, rfl, HA, HK1, HO_3, HO_5, HO_6, HB⟩ := hrel
      have hl5_1 := (Kd.R_reads' HO_5.out).1
      rw [hl5_1] at HO_5
      (try simp only [hl5_1])
      (try simp only [hl5_1] at HO_3)
      (try simp only [hl5_1] at HO_6)
      cases gk with
      | zero => exact absurd HA.out (by simp [impl_powers.l0])
      | succ k1 =>
        have H := HA.out
        clear HA
        simp only [impl_powers.l0] at H
        by_cases c25 : x24_1 < a0
        · rw [if_pos c25] at H
          have c25b0 : decide (x24_1 < a0) = true := decide_eq_true c25
          clear c25
          replace H := Option.bind_eq_some_iff.mp H
          obtain ⟨t231, A260, H⟩ := H
          try dsimp only at H
          have A26 := Aside0.mk A260
          clear A260
          by_cases c27 : x6_1.length < 5864062014805
          rotate_left
          · rw [if_neg c27] at H; exact absurd H (by simp)
          rw [if_pos c27] at H
          have LMc27 := Aside0.mk c27
          clear c27
          obtain ⟨y234, hy234⟩ : ∃ y_ : List (List Int), y_ = (x6_1 ++ [t231]) := ⟨_, rfl⟩
          replace H : (if 0 ≤ (wrap64 (ji3 - 1)) then (if (wrap64 (ji3 - 1)) < (x5_1.length : Int) then (if 0 < (x5_1.length : Int) then (impl_powers.l1 k1 t218 ji3 ((shiftl x5_1).set (0 : Int).toNat 0) y234 (rd x5_1 (wrap64 (ji3 - 1))) a0 x24_1 (x5_1.length : Int) 0) else (none)) else (none)) else (none)) = some r := by first | (rw [hy234]; with_reducible exact H) | (have H2_ := (Option.bind_some _ _).symm.trans H; rw [hy234]; with_reducible exact H2_) | (have H2_ := (Option.bind_some _ _).symm.trans H; with_reducible exact H2_) | with_reducible exact H | (rw [hy234]; exact H) | exact H
          have Ny234 := Aside0.mk hy234
          clear hy234
          obtain ⟨ji28, hji28⟩ : ∃ j_ : Int, (wrap64 (ji3 - 1)) = j_ := ⟨_, rfl⟩
          replace H : (if 0 ≤ (ji28) then (if (ji28) < (x5_1.length : Int) then (if 0 < (x5_1.length : Int) then (impl_powers.l1 k1 t218 ji3 ((shiftl x5_1).set (0 : Int).toNat 0) y234 (rd x5_1 (ji28)) a0 x24_1 (x5_1.length : Int) 0) else (none)) else (none)) else (none)) = some r := by first | (rw [hji28] at H; exact H) | (simp only [hji28] at H ⊢; exact H)
          (try rw [hji28] at A26)
          have hji28w : (IntKind.i64.wrap (ji3 - 1)) = ji28 := (i64_w _).trans hji28
          by_cases c29 : 0 ≤ (ji28)
          rotate_left
          · rw [if_neg c29] at H; exact absurd H (by simp)
          rw [if_pos c29] at H
          have c29b0 : decide (0 ≤ (ji28)) = true := decide_eq_true c29
          clear c29
          by_cases c30 : (ji28) < (x5_1.length : Int)
          rotate_left
          · rw [if_neg c30] at H; exact absurd H (by simp)
          rw [if_pos c30] at H
          have c30b0 : decide ((ji28) < (x5_1.length : Int)) = true := decide_eq_true c30
          clear c30
          by_cases c31 : 0 < (x5_1.length : Int)
          rotate_left
          · rw [if_neg c31] at H; exact absurd H (by simp)
          rw [if_pos c31] at H
          have c31b0 : decide (0 < (x5_1.length : Int)) = true := decide_eq_true c31
          have c31b1 : decide (0 < x5_1.length) = true := decide_eq_true (by omega)
          clear c31
          obtain ⟨y238, hy238⟩ : ∃ y_ : List Int, y_ = (shiftl x5_1) := ⟨_, rfl⟩
          replace H : (impl_powers.l1 k1 t218 ji3 (y238.set (0 : Int).toNat 0) y234 (rd x5_1 (ji28)) a0 x24_1 (x5_1.length : Int) 0) = some r := by first | (rw [hy238]; with_reducible exact H) | (have H2_ := (Option.bind_some _ _).symm.trans H; rw [hy238]; with_reducible exact H2_) | (have H2_ := (Option.bind_some _ _).symm.trans H; with_reducible exact H2_) | with_reducible exact H | (rw [hy238]; exact H) | exact H
          have Ny238 := Aside0.mk hy238
          clear hy238
          obtain ⟨y239, hy239⟩ : ∃ y_ : List Int, y_ = (y238.set (0 : Int).toNat 0) := ⟨_, rfl⟩
          replace H : (impl_powers.l1 k1 t218 ji3 y239 y234 (rd x5_1 (ji28)) a0 x24_1 (x5_1.length : Int) 0) = some r := by first | (rw [hy239]; with_reducible exact H) | (have H2_ := (Option.bind_some _ _).symm.trans H; rw [hy239]; with_reducible exact H2_) | (have H2_ := (Option.bind_some _ _).symm.trans H; with_reducible exact H2_) | with_reducible exact H | (rw [hy239]; exact H) | exact H
          have Ny239 := Aside0.mk hy239
          clear hy239
          have H' := Aside0.mk H
          clear H
          go_wp2_with (first | ((with_reducible refine gate_callee (f := 130) rfl ?_); refine gl (some 28) Try.func130 #[.slice (some ⟨go7, 0, none⟩) x5_1.length co7] ?_; (with_reducible refine (slices_Clone_int64_int64.calls _ _ x5_1 t231 _ ?side1 ?side2 A26.out).mono ?_); (case side1 => repeat (first | exact (Kd.R_reads' HO_5.out).2.2 | (with_reducible refine Kd.C_alloc ?_ _) | (with_reducible refine Kd.C_drewN ?_ _) | (with_reducible refine Kd.C_drew ?_))); (case side2 => exact (Kd.R_reads' HO_5.out).2.1); rintro e w34 ⟨v232, rfl, ho0, hb⟩; refine ⟨_, rfl, ?_⟩; have HO233 := Aside0.mk (Kd.R_lower (Kd.R_new' (Kd.R_new' (Kd.R_newM (M := fun k_ => (w.heap.size ≤ k_)) ho0 (below_size (bk HB.out)) (fun k_ h_ => h_)) (Kd.R_lt (rk HO_3.out))) (Kd.R_lt (rk HO_5.out))) (below_size (bk HB.out))); replace HO_3 := re HO_3 ho0 hb; replace HO_5 := re HO_5 ho0 hb; replace HO_6 := Aside0.mk (Kd.N_elder' (by (with_reducible repeat (first | apply Kd.N_alloc | apply Kd.N_drewN | apply Kd.N_drew)); exact HO_6.out) (Kd.R_base ho0) hb); replace HB := hs HB hb; (try clear hb ho0); obtain ⟨Ao36, co36, eo36⟩ := Kd.R_slice HO233.out; subst eo36) | ((with_reducible refine gate_builtin (b := .append) (xs := #[.tmp 26, .tmp 29]) rfl ?_); at_builtin; refine Kd.N_append (Kd.slice 2 (Kd.int .i64)) (w0 := w) w.heap.size rfl (.tmp 26) (.tmp 29) 82 22 (.slice none 0 0) 24 rfl Try.underlying82 info22 rfl (by decide) (by omega) u6 x6_1 t231 [.slice Ao36 t231.length co36] (fun k_ => (w.heap.size ≤ k_) ∧ some k_ ≠ (.slice Ao18 t218.length co18 : Value).ownBlock ∧ some k_ ≠ (.slice (some ⟨go7, 0, none⟩) x5_1.length co7 : Value).ownBlock) (fun k_ => ((fun k_ => (w.heap.size ≤ k_) ∧ some k_ ≠ (.slice Ao18 t218.length co18 : Value).ownBlock ∧ some k_ ≠ (.slice (some ⟨go7, 0, none⟩) x5_1.length co7 : Value).ownBlock)) k_ ∧ some k_ ≠ (u6 : Value).ownBlock) rfl rfl ?aP (fun _ hk => hk) ?aF ?aO ?aB ?aS ?aL ?_; (case aP => exact (Kd.FK_slice_mk (Kd.R_reads' (Kd.R_mono (ok' := (fun k_ => ((fun k_ => (w.heap.size ≤ k_) ∧ some k_ ≠ (.slice Ao18 t218.length co18 : Value).ownBlock ∧ some k_ ≠ (.slice (some ⟨go7, 0, none⟩) x5_1.length co7 : Value).ownBlock)) k_ ∧ some k_ ≠ (u6 : Value).ownBlock)) (Kd.R_apart' (HO233.out) (Kd.N_typed HO_6.out) (by decide)) (fun k_ hk => ⟨⟨hk.1.1.1.1, ⟨hk.1.1.2, hk.1.2⟩⟩, hk.2⟩))).2.1 (Kd.R_F (Kd.R_mono (ok' := (fun k_ => ((fun k_ => (w.heap.size ≤ k_) ∧ some k_ ≠ (.slice Ao18 t218.length co18 : Value).ownBlock ∧ some k_ ≠ (.slice (some ⟨go7, 0, none⟩) x5_1.length co7 : Value).ownBlock)) k_ ∧ some k_ ≠ (u6 : Value).ownBlock)) (Kd.R_apart' (HO233.out) (Kd.N_typed HO_6.out) (by decide)) (fun k_ hk => ⟨⟨hk.1.1.1.1, ⟨hk.1.1.2, hk.1.2⟩⟩, hk.2⟩))))); (case aB => exact (bk HB.out)); (case aF => exact (fun k_ hk => ⟨(Nat.le_trans (below_size (bk HB.out)) hk), Kd.fresh' (Kd.R_lt (rk HO_3.out)) k_ hk, Kd.fresh' (Kd.R_lt (rk HO_5.out)) k_ hk⟩)); (case aO => exact (by (with_reducible repeat (first | apply Kd.N_alloc | apply Kd.N_drewN | apply Kd.N_drew)); exact Kd.N_mono HO_6.out (fun _ hk => ⟨hk.1.1, ⟨hk.1.2.1, hk.1.2.2⟩⟩))); (case aS => exact (below_size (bk HB.out))); (case aL => have := LMc27.out; omega); intro v235 w35 ho hb hg hat; rw [← Ny234.out] at ho; have HO236 := Aside0.mk ho; replace HO_3 := Aside0.mk (Kd.R_over' (rk HO_3.out) (Kd.N_typed (by (with_reducible repeat (first | apply Kd.N_alloc | apply Kd.N_drewN | apply Kd.N_drew)); exact HO_6.out)) (by decide) hg); replace HO_5 := Aside0.mk (Kd.R_over' (rk HO_5.out) (Kd.N_typed (by (with_reducible repeat (first | apply Kd.N_alloc | apply Kd.N_drewN | apply Kd.N_drew)); exact HO_6.out)) (by decide) hg); replace HB := Aside0.mk hb; clear HO_6 HO233 ho hb hg hat; have p237 : 0 ≤ ((ji28) : Int) := of_decide_eq_true (by first | (with_reducible assumption) | assumption); have q237 : (ji28) < (x5_1.length : Int) := of_decide_eq_true (by first | (with_reducible assumption) | assumption); obtain ⟨ad237, e237, hx237_0⟩ := Kd.at_int (Kd.R_reads' HO_5.out).2.2 (ji28) p237 q237; obtain rfl : (⟨go7, 0, none⟩ : Addr) = ad237 := (by injection e237); (first | simp only [add_plain] at hx237_0 | simp only [add_at] at hx237_0 | simp only [Addr.add, Nat.zero_add] at hx237_0 | skip); replace p237 := eq_true p237; replace q237 := eq_true q237))
          try go_wp2
          replace HO_3 := rd0 HO_3
          replace HO_5 := rd0 HO_5
          replace HO236 := Aside0.mk (Kd.N_drew HO236.out)
          replace HB := hd0 HB
          replace HO_5 := Aside0.mk (Kd.R_mono (ok' := (fun k_ => (w.heap.size ≤ k_) ∧ some k_ ≠ (.slice Ao18 t218.length co18 : Value).ownBlock)) HO_5.out (fun k_ hk => ⟨hk.1.1, hk.1.2⟩))
          have hLx : 0 < x5_1.length := of_decide_eq_true (by first | (with_reducible assumption) | assumption)
          have hLc : x5_1.length ≤ co7 := (Kd.R_reads' HO_5.out).2.1
          have hL0 : 0 ≤ ji28 := of_decide_eq_true (by first | (with_reducible assumption) | assumption)
          have hL1 : ji28 < (x5_1.length : Int) := of_decide_eq_true (by first | (with_reducible assumption) | assumption)
          have hL2 : ji28.toNat = x5_1.length - 1 := by have h1 : y221.length = ji3.toNat := (by rw [Ny221.out]; simp); have h2 := hl5_1; have h3 := hji28; have h4 := hji3; unfold wrap64 at h3 h4; omega
          obtain ⟨i0_, hi0_, _, hsz_, _⟩ := info_parts info2
          obtain ⟨A37, hA37, hcutA⟩ : ∃ A', Aside0 (A' = (if co7 = 1 then some ⟨go7, 0, none⟩ else some ⟨go7, 1, none⟩)) ∧ ∀ W : World, (Instr.slice 22 (.slice (some ⟨go7, 0, none⟩) x5_1.length co7) (some (.int .i64 1)) none none).run Try.prog W = .ok (.slice A' (x5_1.length - 1) (co7 - 1)) W := ⟨_, ⟨rfl⟩, fun W => cut_from (P := Try.prog) 22 2 Try.underlying22 hi0_ hsz_ (some ⟨go7, 0, none⟩) co7 x5_1.length 1 hLx W hLc⟩
          have hcutB : ∀ W : World, (Instr.slice 22 (.slice (some ⟨go7, 0, none⟩) x5_1.length co7) none (some (.int .i64 ji28)) none).run Try.prog W = .ok (.slice (some ⟨go7, 0, none⟩) (x5_1.length - 1) co7) W := fun W => hL2 ▸ cut_upto (P := Try.prog) 22 2 Try.underlying22 hi0_ hsz_ (some ⟨go7, 0, none⟩) co7 x5_1.length ji28 hL0 (by omega) W
          refine start_ (n := 7) (S := fun w' => True) (ds := [6]) #[false, false, false, false, false, false, false] (by kernel_rfl) rfl rfl trivial (fun hHeld => ?_); refine with_tabW impl_powers.tab12 impl_powers.bits12 (fun HT_ HW_ => ?_)
          generalize World.drew _ = w36 at HO_3 HO_5 HO236 HB hHeld ⊢
          refine pu 0 (some 36) HT_ ?_
          refine pu 1 (some 37) HT_ ?_
          refine pu 2 (some 38) HT_ ?_
          refine pu 3 (some 39) HT_ ?_
          refine pu 4 (some 40) HT_ ?_
          refine pu 5 (some 41) HT_ ?_
          clear hcutA hcutB hL0 hL1 hL2 hLc
          refine la 6 (some 42) HT_ (fun K hK => ?_)
          refine step_copy_shift HO_5.out hLx (.tmp 37) (.tmp 41) 22 22 _ Try.underlying22 (by simp [hi0_, hsz_]) (by rw [← hA37.out]; rfl) rfl ?_
          intro w38 hp_ hg hB_
          rw [← Ny238.out] at hp_
          replace HO_3 := Aside0.mk (Kd.R_after (v := (.slice (some ⟨go7, 0, none⟩) x5_1.length co7)) (v1 := (.slice (some ⟨go7, 0, none⟩) x5_1.length co7)) (ok := (fun k_ => (w.heap.size ≤ k_))) (rk (Kd.R_mono HO_3.out (fun _ hk => ⟨hk.1.1, hk.1.2⟩))) hg (.inl rfl))
          replace HO_5 := Aside0.mk hp_
          replace HO236 := Aside0.mk (Kd.N_afterv (v := (.slice (some ⟨go7, 0, none⟩) x5_1.length co7)) (v1 := (.slice (some ⟨go7, 0, none⟩) x5_1.length co7)) (ok := (fun k_ => (w.heap.size ≤ k_) ∧ some k_ ≠ (.slice Ao18 t218.length co18 : Value).ownBlock)) (by (with_reducible repeat (first | apply Kd.N_alloc | apply Kd.N_drewN | apply Kd.N_drew)); exact Kd.N_mono HO236.out (fun _ hk => ⟨⟨hk.1, hk.2.1⟩, hk.2.2⟩)) hg (.inl rfl))
          replace HB := Aside0.mk (hB_ _ _ HB.out GB7.out)
          clear hg hp_ hB_
          refine hK.out _ _ ?_
          clear hK K hA37 hLx hi0_ hsz_
          refine done_ (done_of HT_.out (by kernel_rfl)) ?_
          clear hHeld HT_ HW_
          have p33 : 0 ≤ (0 : Int) := (by omega)
          have q33 : (0 : Int) < ((x5_1.length : Int) : Int) := of_decide_eq_true (by first | (with_reducible assumption) | assumption)
          have qi33 : (0 < x5_1.length) = True := eq_true (by omega)
          obtain ⟨hx33_0, hf33_0⟩ := Kd.R_celln 0 HO_5.out (0 : Int) p33 q33
          (try rw [show ((0 : Int)).toNat = 0 from rfl] at hx33_0)
          (try simp only [Nat.reduceMul, Nat.zero_mul, Nat.zero_add, Nat.reduceAdd] at hx33_0)
          (try rw [show ((0 : Int)).toNat = 0 from rfl] at hf33_0)
          (try simp only [Nat.reduceMul, Nat.zero_mul, Nat.zero_add, Nat.reduceAdd] at hf33_0)
          replace p33 := eq_true p33
          replace q33 := eq_true q33
          obtain ⟨hy39_, hz39_⟩ := Kd.R_celln 0 HO_5.out (0 : Int) (by omega) (of_decide_eq_true (by first | (with_reducible assumption) | assumption))
          (try simp only [Int.reduceToNat, Int.toNat_zero, Int.toNat_ofNat, Nat.reduceMul, Nat.zero_mul, Nat.zero_add] at hy39_ hz39_)
          (try rw [show ((0 : Int)).toNat = 0 from rfl] at hy39_)
          (try rw [show ((0 : Int)).toNat = 0 from rfl] at hz39_)
          have HP39 := Kd.R_putg HO_5.out (0 : Int) 0
          go_wp2_with (first | ((with_reducible refine gate_store (t := 2) (p := 44) rfl ?_); refine store_event (t := 2) (p := 44) (v := ?vo_w40) (w1 := (w38.setCell ⟨go7, (0 : Int).toNat, none⟩ (.int .i64 0))) ?hg ?ho ?hn ?hr ?_; (case ho => rfl); (case hg => rfl); (case hn => rfl); (case hr => first | (go_simp; done) | (go_simp; rfl)); intro w40 hw; have hg : w38.grownBy w40 (some go7) := (by rw [hw]; exact HP39.2); have hp_ : Kd.R (Kd.int .i64) 2 w40 w.heap.size (fun k_ => (w.heap.size ≤ k_) ∧ some k_ ≠ (.slice Ao18 t218.length co18 : Value).ownBlock) (.slice (some ⟨go7, 0, none⟩) x5_1.length co7) y239 := (by rw [hw, Ny239.out]; exact HP39.1); clear HP39; replace HO_3 := Aside0.mk (Kd.R_after (v := (.slice (some ⟨go7, 0, none⟩) x5_1.length co7)) (v1 := (.slice (some ⟨go7, 0, none⟩) x5_1.length co7)) (ok := (fun k_ => (w.heap.size ≤ k_))) (rk HO_3.out) hg (.inl rfl)); replace HO_5 := Aside0.mk hp_; replace HO236 := Aside0.mk (Kd.N_afterv (v := (.slice (some ⟨go7, 0, none⟩) x5_1.length co7)) (v1 := (.slice (some ⟨go7, 0, none⟩) x5_1.length co7)) (ok := (fun k_ => (w.heap.size ≤ k_) ∧ some k_ ≠ (.slice Ao18 t218.length co18 : Value).ownBlock)) (by (with_reducible repeat (first | apply Kd.N_alloc | apply Kd.N_drewN | apply Kd.N_drew)); exact HO236.out) hg (.inl rfl)); replace HB := Aside0.mk (by rw [hw]; exact below_set (HB.out) GB7.out : Below w.heap.size w w40); clear hg hw hp_))
          go_loopg [47] k1 (fun kq v47 w' => ∃ (x5_2 : List Int) (x47_2 : Int), v47 = .int .i64 x47_2 ∧ Aside0 (impl_powers.l1 kq t218 ji3 x5_2 y234 (rd x5_1 (ji28)) a0 x24_1 (x5_1.length : Int) x47_2 = some r) ∧ Aside0 (kq ≤ k1) ∧ Aside0 (Kd.R (Kd.int .i64) 2 w' w.heap.size (fun k_ => (w.heap.size ≤ k_) ∧ some k_ ≠ ((.slice (some ⟨go7, 0, none⟩) x5_1.length co7) : Value).ownBlock) (.slice Ao18 t218.length co18) t218) ∧ Aside0 (Kd.R (Kd.int .i64) 2 w' w.heap.size (fun k_ => (w.heap.size ≤ k_) ∧ some k_ ≠ ((.slice Ao18 t218.length co18) : Value).ownBlock) (.slice (some ⟨go7, 0, none⟩) x5_1.length co7) x5_2) ∧ Aside0 (Kd.N (Kd.slice 2 (Kd.int .i64)) 22 w' w.heap.size (fun k_ => (w.heap.size ≤ k_) ∧ some k_ ≠ ((.slice Ao18 t218.length co18) : Value).ownBlock ∧ some k_ ≠ ((.slice (some ⟨go7, 0, none⟩) x5_1.length co7) : Value).ownBlock) v235 y234) ∧ Aside0 (Below w.heap.size w w'))
          case atStart => exact ⟨(y239), (0), (by first | rfl | (simp; done) | (simp [*]; done)), H', ⟨Nat.le_refl _⟩, ⟨by (try simp only [hl5_1]); (with_reducible repeat (first | apply Kd.R_alloc | apply Kd.R_drewN | apply Kd.R_drew)); exact HO_3.out⟩, ⟨by (try simp only [hl5_1]); (with_reducible repeat (first | apply Kd.R_alloc | apply Kd.R_drewN | apply Kd.R_drew)); exact HO_5.out⟩, ⟨by (try simp only [hl5_1]); (with_reducible repeat (first | apply Kd.N_alloc | apply Kd.N_drewN | apply Kd.N_drew)); exact Kd.N_mono HO236.out (fun _ hk => ⟨hk.1.1, ⟨hk.1.2, hk.2⟩⟩)⟩, ⟨bk HB.out⟩⟩
          case round =>
            clear H'
            try clear c1; try clear c2; try clear p2; try clear q2; try clear hx2; try clear c3; try clear p3; try clear q3; try clear hx3; try clear qi3; try clear hf3; try clear c4; try clear c4b0; try clear c4b1; try clear c5; try clear c5b0; try clear c5b1; try clear c6; try clear c6b0; try clear c6b1; try clear p6; try clear c7; try clear p7; try clear q7; try clear hx7; try clear qi7; try clear hf7; try clear c8; try clear c8b0; try clear c8b1; try clear c12; try clear p23; try clear q23; try clear hx23; try clear c25; try clear c25b0; try clear c27; try clear c29; try clear c29b0; try clear c30; try clear c30b0; try clear c31; try clear c31b0; try clear c31b1; try clear p32; try clear q32; try clear hx32; try clear qi32; try clear hf32; try clear p33; try clear q33; try clear hx33; try clear qi33; try clear hf33; try clear hx237_0; try clear hx32_0; try clear hx33_0; try clear hx7_0; try clear p2; try clear p237; try clear p32; try clear p33; try clear p6; try clear p7; try clear q237; try clear q32; try clear q33; try clear q7
            obtain ⟨x5_2, x47_2, rfl, HA, HK2, HO_3, HO_5, HO_6, HB⟩ := hrel
            have hl5_2 := (Kd.R_reads' HO_5.out).1
            rw [hl5_2] at HO_5
            (try simp only [hl5_2])
            (try simp only [hl5_2] at HO_3)
            (try simp only [hl5_2] at HO_6)
            cases gk with
            | zero => exact absurd HA.out (by simp [impl_powers.l1])
            | succ k2 =>
              have H := HA.out
              clear HA
              simp only [impl_powers.l1] at H
              by_cases c41 : x47_2 < (x5_1.length : Int)
              · rw [if_pos c41] at H
                have c41b0 : decide (x47_2 < (x5_1.length : Int)) = true := decide_eq_true c41
                clear c41
                by_cases c42 : 0 ≤ x47_2
                rotate_left
                · rw [if_neg c42] at H; exact absurd H (by simp)
                rw [if_pos c42] at H
                have c42b0 : decide (0 ≤ x47_2) = true := decide_eq_true c42
                clear c42
                by_cases c43 : x47_2 < (x5_2.length : Int)
                rotate_left
                · rw [if_neg c43] at H; exact absurd H (by simp)
                rw [if_pos c43] at H
                have c43b0 : decide (x47_2 < (x5_2.length : Int)) = true := decide_eq_true c43
                clear c43
                by_cases c44 : x47_2 < (t218.length : Int)
                rotate_left
                · rw [if_neg c44] at H; exact absurd H (by simp)
                rw [if_pos c44] at H
                have c44b0 : decide (x47_2 < (t218.length : Int)) = true := decide_eq_true c44
                clear c44
                obtain ⟨y242, hy242⟩ : ∃ y_ : List Int, y_ = (x5_2.set (x47_2 : Int).toNat (wrap64 ((rd x5_2 x47_2) - (wrap64 ((rd x5_1 (ji28)) * (rd t218 x47_2)))))) := ⟨_, rfl⟩
                replace H : (impl_powers.l1 k2 t218 ji3 y242 y234 (rd x5_1 (ji28)) a0 x24_1 (x5_1.length : Int) (wrap64 (x47_2 + 1))) = some r := by first | (rw [hy242]; with_reducible exact H) | (have H2_ := (Option.bind_some _ _).symm.trans H; rw [hy242]; with_reducible exact H2_) | (have H2_ := (Option.bind_some _ _).symm.trans H; with_reducible exact H2_) | with_reducible exact H | (rw [hy242]; exact H) | exact H
                have Ny242 := Aside0.mk hy242
                clear hy242
                have H' := Aside0.mk H
                clear H
                try go_wp2
                replace HO_3 := rd0 HO_3
                replace HO_5 := rd0 HO_5
                replace HO_6 := Aside0.mk (Kd.N_drew HO_6.out)
                replace HB := hd0 HB
                have p240 : 0 ≤ (x47_2 : Int) := of_decide_eq_true (by first | (with_reducible assumption) | assumption)
                have q240 : x47_2 < (x5_2.length : Int) := of_decide_eq_true (by first | (with_reducible assumption) | assumption)
                try (obtain ⟨Aw_, cw_, ew_⟩ := Kd.R_slice HO_5.out; subst ew_)
                obtain ⟨ad240, e240, hx240_0⟩ := Kd.at_int (Kd.R_reads' HO_5.out).2.2 x47_2 p240 q240
                obtain rfl : (⟨go7, 0, none⟩ : Addr) = ad240 := (by injection e240)
                (first | simp only [add_plain] at hx240_0 | simp only [add_at] at hx240_0 | simp only [Addr.add, Nat.zero_add] at hx240_0 | skip)
                replace p240 := eq_true p240
                replace q240 := eq_true q240
                have p241 : 0 ≤ (x47_2 : Int) := of_decide_eq_true (by first | (with_reducible assumption) | assumption)
                have q241 : x47_2 < (t218.length : Int) := of_decide_eq_true (by first | (with_reducible assumption) | assumption)
                try (obtain ⟨Aw_, cw_, ew_⟩ := Kd.R_slice HO_3.out; subst ew_)
                obtain ⟨ad241, e241, hx241_0⟩ := Kd.at_int (Kd.R_reads' HO_3.out).2.2 x47_2 p241 q241
                cases e241
                replace p241 := eq_true p241
                replace q241 := eq_true q241
                have p45 : 0 ≤ (x47_2 : Int) := of_decide_eq_true (by first | (with_reducible assumption) | assumption)
                have q45 : (x47_2 : Int) < ((x5_2.length : Int) : Int) := of_decide_eq_true (by first | (with_reducible assumption) | assumption)
                obtain ⟨hx45_0, hf45_0⟩ := Kd.R_celln 0 HO_5.out (x47_2 : Int) p45 q45
                replace p45 := eq_true p45
                replace q45 := eq_true q45
                have HP47 := Kd.R_putn HO_5.out (x47_2 : Int) (wrap64 ((rd x5_2 x47_2) - (wrap64 ((rd x5_1 (ji28)) * (rd t218 x47_2)))))
                rw [← Ny242.out] at HP47
                have HQ47 := Aside0.mk HP47
                clear HP47
                refine start_ (n := 13) (S := fun w' => w'.cell? ⟨go7, (x47_2).toNat, none⟩ = some (.int .i64 (rd x5_2 x47_2)) ∧ w'.cell? (ad241.add (x47_2).toNat) = some (.int .i64 (rd t218 x47_2))) (ds := [12]) #[false, false, false, false, false, false, false, false, false, false, false, false, false] (by kernel_rfl) rfl rfl ⟨hx240_0, hx241_0⟩ (fun hHeld => ?_); refine with_tabW impl_powers.tab17 impl_powers.bits17 (fun HT_ HW_ => ?_)
                generalize wr.drew = w46 at HO_3 HO_5 HO_6 HB HQ47 hf45_0 hx240_0 hx241_0 hx45_0 hHeld ⊢
                refine pu 0 (some 50) HT_ ?_
                refine pu 1 (some 51) HT_ ?_
                refine pu 2 (some 52) HT_ ?_
                refine pu 4 (some 54) HT_ ?_
                refine pu 5 (some 55) HT_ ?_
                refine pu 6 (some 56) HT_ ?_
                refine pu 7 (some 57) HT_ ?_
                refine tk 3 (some 53) HT_ HW_ hHeld ?_ (hy := by rintro w' ⟨s0, s1⟩; (first | simp only [add_plain] at s0 s1 | skip); go_simp; with_reducible rfl)
                refine tk 8 (some 58) HT_ HW_ hHeld ?_ (hy := by rintro w' ⟨s0, s1⟩; (first | simp only [add_plain] at s0 s1 | skip); go_simp; with_reducible rfl)
                refine pu 9 (some 59) HT_ ?_
                refine pu 10 (some 60) HT_ ?_
                refine pu 11 (some 61) HT_ ?_
                refine la 12 none HT_ (fun K hK => ?_)
                refine skip_ (w1 := ?_) (by rfl) rfl ?_ ?_
                rotate_left
                · go_simp
                  rfl
                refine hK.out _ _ ?_
                clear hK K
                refine done_ (done_of HT_.out (by kernel_rfl)) ?_
                try go_wp2
                (try simp only [← hl5_2])
                go_roundg k2
                case measure => have := HK1.out; have := HK2.out; omega
                case rel => exact ⟨(y242), (wrap64 (x47_2 + 1)), (by first | rfl | (simp; done) | (simp [*]; done)), H', ⟨by have := HK1.out; have := HK2.out; omega⟩, ⟨by (try simp only [hl5_1]); (try simp only [hl5_2]); (with_reducible repeat (first | apply Kd.R_alloc | apply Kd.R_drewN | apply Kd.R_drew)); exact Kd.R_mono (Kd.R_far (p := ⟨go7, (x47_2 : Int).toNat, none⟩) (Kd.R_mono HO_3.out (fun k_ hk => (⟨hk, fun e_ => hk.2 (by rw [e_]; rfl)⟩ : _ ∧ k_ ≠ go7))) (fun _ hk => hk.2) (.int .i64 (wrap64 ((rd x5_2 x47_2) - (wrap64 ((rd x5_1 (ji28)) * (rd t218 x47_2))))))) (fun _ hk => ⟨hk.1.1, hk.1.2⟩)⟩, ⟨by (try simp only [hl5_1]); (try simp only [hl5_2]); (with_reducible repeat (first | apply Kd.R_alloc | apply Kd.R_drewN | apply Kd.R_drew)); exact HQ47.out⟩, ⟨by (try simp only [hl5_1]); (try simp only [hl5_2]); (with_reducible repeat (first | apply Kd.N_alloc | apply Kd.N_drewN | apply Kd.N_drew)); exact Kd.N_mono (Kd.N_far (p := ⟨go7, (x47_2 : Int).toNat, none⟩) (Kd.N_mono HO_6.out (fun k_ hk => (⟨hk, fun e_ => hk.2.2 (by rw [e_]; rfl)⟩ : _ ∧ k_ ≠ go7))) (fun _ hk => hk.2) (.int .i64 (wrap64 ((rd x5_2 x47_2) - (wrap64 ((rd x5_1 (ji28)) * (rd t218 x47_2))))))) (fun _ hk => ⟨hk.1.1, ⟨hk.1.2.1, hk.1.2.2⟩⟩)⟩, ⟨by repeat (first | (with_reducible first | exact HB.out | apply below_alloc | apply pw_below_drewN | apply below_drew1 | refine below_set ?_ GB7.out) | exact HB.out)⟩⟩
              · rw [if_neg c41] at H
                have c41b0 : decide (x47_2 < (x5_1.length : Int)) = false := decide_eq_false c41; have c41b1 : decide (x47_2 < (x5_2.length : Int)) = false := hl5_2 ▸ c41b0
                clear c41
                have H' := Aside0.mk H
                clear H
                go_wp2
                (try simp only [← hl5_1, ← hl5_2])
                go_roundg k2
                case measure => have := HK1.out; have := HK2.out; omega
                case rel => exact ⟨(x5_2), (y234), (wrap64 (x24_1 + 1)), (by first | rfl | (simp; done) | (simp [*]; done)), H', ⟨by have := HK1.out; have := HK2.out; omega⟩, ⟨by (try simp only [hl5_1]); (try simp only [hl5_2]); (with_reducible repeat (first | apply Kd.R_alloc | apply Kd.R_drewN | apply Kd.R_drew)); exact HO_3.out⟩, ⟨by (try simp only [hl5_1]); (try simp only [hl5_2]); (with_reducible repeat (first | apply Kd.R_alloc | apply Kd.R_drewN | apply Kd.R_drew)); exact HO_5.out⟩, ⟨by (try simp only [hl5_1]); (try simp only [hl5_2]); (with_reducible repeat (first | apply Kd.N_alloc | apply Kd.N_drewN | apply Kd.N_drew)); exact HO_6.out⟩, ⟨bk HB.out⟩⟩
        · rw [if_neg c25] at H
          have c25b0 : decide (x24_1 < a0) = false := decide_eq_false c25
          clear c25
          obtain rfl := Option.some.inj H
          go_wp2
          go_ret
          exact ⟨_, by first | rfl | (simp [errW_none, errW_some] <;> rfl) | (simp only [← hji3]; first | rfl | (simp [errW_none, errW_some] <;> rfl)) | (simp [*, errW_none, errW_some] <;> rfl), by (with_reducible repeat (first | apply Kd.N_alloc | apply Kd.N_drewN | apply Kd.N_drew)); exact Kd.N_mono HO_6.out (fun _ hk => hk.1), bk HB.out⟩

/-! ### impl_fieldOf: function 106 -/
def impl_fieldOf.f (k : Nat) (a0 : Int) : Option (Int × Int × (List (List Int))) := (impl_powers.f k a0).bind fun t341 => (if 0 < (t341.length : Int) then (some (a0, ((rd_L1 t341 0).length : Int), t341)) else (none))
theorem impl_fieldOf.mono : ∀ a0 k, LeO (impl_fieldOf.f k a0) (impl_fieldOf.f (k + 1) a0) := by
 intro a0 k
 unfold impl_fieldOf.f
 repeat' first | (with_reducible first | exact impl_powers.mono _ _ | exact LeO.refl _ | exact LeO.none _ | refine LeO.ite ?_ ?_ | refine LeO.bind ?_ (fun _ => ?_)) | exact LeO.none _ | refine LeO.ite ?_ ?_ | refine LeO.bind ?_ (fun _ => ?_)
set_option maxHeartbeats 8000000 in
set_option maxRecDepth 100000 in
theorem impl_fieldOf.calls (k : Nat) (a0 : Int) (r1 : Int) (r2 : Int) (r3 : List (List Int)) (w : World) (h : impl_fieldOf.f k a0 = some (r1, r2, r3)) :
  Calls Try.prog 106 #[.int .i64 a0] w fun e w' => ∃ v2_ : Value, e = .returned (.agg #[.int .i64 r1, .int .i64 r2, v2_]) ∧ Kd.N (Kd.slice 2 (Kd.int .i64)) 22 w' w.heap.size (fun k_ => (w.heap.size ≤ k_)) v2_ r3 ∧ Below w.heap.size w w' := by
 have hu84 := Try.underlying84
 have HB := Aside0.mk (Below.refl w.heap.size w)
 have H := h
 unfold impl_fieldOf.f at H
 clear h
 replace H := Option.bind_eq_some_iff.mp H
 obtain ⟨t341, A20, H⟩ := H
 try dsimp only at H
 have A2 := Aside0.mk A20
 clear A20
 by_cases c3 : 0 < (t341.length : Int)
 rotate_left
 ·rw [if_neg c3] at H; exact absurd H (by simp)
 rw [if_pos c3] at H
 have c3b0 : decide (0 < (t341.length : Int)) = true := decide_eq_true c3
 have c3b1 : decide (0 < t341.length) = true := decide_eq_true (by omega)
 clear c3
 simp only [Option.some.injEq, Prod.mk.injEq] at H
 obtain ⟨rfl, rfl, rfl⟩ := H
 go_enter Try.func106, Try.ntmps106
 go_wp2_with (first | ((with_reducible refine gate_dst (N := 2) rfl ?_); refine bx 2 #[.int .i64 0, .int .i64 0, .slice none 0 0] 84 (fun gb340 hg w4 hbox hb => ?_); have BK340 := Aside0.mk hbox; have GW340 := ge HB hg; have GE340 := GW340; replace HB := hs HB hb; clear hb hbox hg) | ((with_reducible refine gate_callee (f := 177) rfl ?_); refine gl (some 5) Try.func177 #[.int .i64 a0] ?_; (with_reducible refine (impl_powers.calls k a0 t341 _ A2.out).mono ?_); rintro e w5 ⟨v342, rfl, ho0, hb⟩; refine ⟨_, rfl, ?_⟩; have HO343 := Aside0.mk (Kd.N_lower (Kd.N_mono (ok' := fun k_ => (w.heap.size ≤ k_) ∧ k_ ≠ gb340) ho0 (fun k_ hk_ => ⟨(Nat.le_trans (below_size (bks HB.out)) hk_), (Kd.freshB (g := gb340) (o := .cells #[.int .i64 0, .int .i64 0, .slice none 0 0] 84 (0, 0)) (pk BK340.out) k_ hk_)⟩)) (below_size (bks HB.out))); replace BK340 := bb BK340 hb; replace HB := hs HB hb; (try clear hb ho0); obtain ⟨Ao6, co6, eo6⟩ := Kd.N_slice HO343.out; subst eo6; have p344 : 0 ≤ (0 : Int) := (by omega); have q344 : 0 < (t341.length : Int) := of_decide_eq_true (by first | (with_reducible assumption) | assumption); obtain ⟨ad344, A344_0, c344_0, e344, hx344_0, hl344_0, hi344_0⟩ := at_L1 (Kd.N_reads' HO343.out).2.2 0 p344 q344; cases e344; obtain ⟨ce344, hce344, hMe344, hcc344⟩ := Kd.N_get HO343.out [] 0 p344 (by first | exact q344 | exact of_decide_eq_true (by first | (with_reducible assumption) | assumption) | (have e_ := (Kd.N_reads' HO343.out).1; omega)); obtain ⟨ua344_0, uc344_0, rfl, ul344_0, ge344_0⟩ := Kd.FK_slice_open hMe344; have hv344_0 := hcc344 0 _ rfl; rw [Nat.add_zero, show ((Kd.slice 2 (Kd.int .i64))).sz = 1 from rfl, Nat.mul_one] at hv344_0; replace hv344_0 := Option.some.inj (hv344_0.symm.trans hx344_0); injection hv344_0 with hva_ hvn_ hvc_; rw [hva_] at ge344_0; rw [hvc_] at ul344_0; have HL344_0 := Aside0.mk (show Kd.V (Kd.int .i64) 2 _ w.heap.size _ _ (rd_L1 t341 0) from Kd.V_mk ul344_0 ge344_0); clear hva_ hvn_ hvc_ ge344_0 ul344_0; clear hcc344 hce344; have qi344 : (0 < t341.length) = True := eq_true (by omega); (try rw [show ((0 : Int)).toNat = 0 from rfl] at hx344_0); (try rw [Addr.add_zero'] at hx344_0); have HR344_0 := Aside0.mk hi344_0; have HC344_0 := Aside0.mk hl344_0; clear hi344_0 hl344_0; replace p344 := eq_true p344; replace q344 := eq_true q344; have hcz7_0 : w5.cell? ⟨gb340, 0, none⟩ = some (.int .i64 0) := (blk_cell BK340.out 0).trans rfl; have hcz7_1 : w5.cell? ⟨gb340, 1, none⟩ = some (.int .i64 0) := (blk_cell BK340.out 1).trans rfl; have hcz7_2 : w5.cell? ⟨gb340, 2, none⟩ = some (.slice none 0 0) := (blk_cell BK340.out 2).trans rfl; have hfz7_0 := blk_frozen BK340.out 0; have hfz7_1 := blk_frozen BK340.out 1; have hfz7_2 := blk_frozen BK340.out 2))
 refine bodyPost_ret (results_cell_row rfl _ _ gb340 84 #[.int .i64 a0, .int .i64 ((rd_L1 t341 0).length : Int), .slice (some ad344) t341.length co6] (0, 0) _ rfl (by (with_reducible repeat (first | refine blk_drewN ?_ _ | refine blk_drew ?_ | refine blk_alloc ?_ _)); refine blk_put (cs := #[.int .i64 a0, .int .i64 ((rd_L1 t341 0).length : Int), .slice none 0 0]) ?_ 2 _ rfl; (with_reducible repeat (first | refine blk_drewN ?_ _ | refine blk_drew ?_ | refine blk_alloc ?_ _)); refine blk_put (cs := #[.int .i64 a0, .int .i64 0, .slice none 0 0]) ?_ 1 _ rfl; (with_reducible repeat (first | refine blk_drewN ?_ _ | refine blk_drew ?_ | refine blk_alloc ?_ _)); refine blk_put (cs := #[.int .i64 0, .int .i64 0, .slice none 0 0]) ?_ 0 _ rfl; (with_reducible repeat (first | refine blk_drewN ?_ _ | refine blk_drew ?_ | refine blk_alloc ?_ _)); exact BK340.out) Try.underlying84 rfl (by kernel_rfl)) rfl ?_
 exact ⟨_, by first | rfl | (simp [errW_none, errW_some] <;> rfl) | (simp [*, errW_none, errW_some] <;> rfl), by (with_reducible repeat (first | apply Kd.N_alloc | apply Kd.N_drewN | apply Kd.N_drew)); exact Kd.N_mono (Kd.N_far (p := ⟨gb340, 2, none⟩) (Kd.N_far (p := ⟨gb340, 1, none⟩) (Kd.N_far (p := ⟨gb340, 0, none⟩) (Kd.N_mono HO343.out (fun k_ hk => (⟨hk, hk.2⟩ : _ ∧ k_ ≠ gb340))) (fun _ hk => hk.2) (.int .i64 a0)) (fun _ hk => hk.2) (.int .i64 ((rd_L1 t341 0).length : Int))) (fun _ hk => hk.2) (.slice (some ad344) t341.length co6)) (fun _ hk => hk.1.1), bks HB.out⟩
/-! ### impl_isPrimeTo: function 123 -/
def impl_isPrimeTo.f (k : Nat) (a0 : Int) (a1 : Int) : Option (Bool) := (impl_within.f a0 1 a1).bind fun t345 => (if t345 = true then ((impl_gcd.f k a0 a1).bind fun t346 => (some (t346 == 1))) else (some false))
theorem impl_isPrimeTo.mono : ∀ a0 a1 k, LeO (impl_isPrimeTo.f k a0 a1) (impl_isPrimeTo.f (k + 1) a0 a1) := by
 intro a0 a1 k
 unfold impl_isPrimeTo.f
 repeat' first | (with_reducible first | exact impl_gcd.mono _ _ _ | exact LeO.refl _ | exact LeO.none _ | refine LeO.ite ?_ ?_ | refine LeO.bind ?_ (fun _ => ?_)) | exact LeO.none _ | refine LeO.ite ?_ ?_ | refine LeO.bind ?_ (fun _ => ?_)
set_option maxHeartbeats 8000000 in
set_option maxRecDepth 100000 in
theorem impl_isPrimeTo.calls (k : Nat) (a0 : Int) (a1 : Int) (r : Bool) (w : World) (h : impl_isPrimeTo.f k a0 a1 = some r) :
  Calls Try.prog 123 #[.int .i64 a0, .int .i64 a1] w fun e w' => e = .returned (.bool r) ∧ Below w.heap.size w w' := by
 have HB := Aside0.mk (Below.refl w.heap.size w)
 have H := h
 unfold impl_isPrimeTo.f at H
 clear h
 replace H := Option.bind_eq_some_iff.mp H
 obtain ⟨t345, A30, H⟩ := H
 try dsimp only at H
 have A3 := Aside0.mk A30
 clear A30
 by_cases c4 : t345 = true
 ·subst c4
  have H1 : ((impl_gcd.f k a0 a1).bind fun t346 => (some (t346 == 1))) = some r := by rw [if_pos rfl] at H; exact H
  clear H
  have H := H1
  clear H1
  replace H := Option.bind_eq_some_iff.mp H
  obtain ⟨t346, A50, H⟩ := H
  replace H : (some (t346 == 1)) = some r := H
  have A5 := Aside0.mk A50
  clear A50
  obtain rfl := Option.some.inj H
  go_enter Try.func123, Try.ntmps123
  go_wp2_with (first | ((with_reducible refine gate_callee (f := 129) rfl ?_); refine gl (some 7) Try.func129 #[.int .i64 a0, .int .i64 1, .int .i64 a1] ?_; (with_reducible refine (impl_within.calls a0 1 a1 true _ A3.out).mono ?_); rintro e w' ⟨rfl, ⟨nd, rfl⟩⟩; refine ⟨_, rfl, ?_⟩) | (go_at_call 149; (with_reducible refine (impl_gcd.calls k a0 a1 t346 _ A5.out).mono ?_); rintro e w6 ⟨rfl, hb⟩; replace HB := hs HB hb; (try clear hb)))
  go_ret
  exact ⟨by first | rfl | (simp [errW_none, errW_some] <;> rfl) | (simp [*, errW_none, errW_some] <;> rfl), bk HB.out⟩
 ·replace c4 := Bool.eq_false_iff.mpr c4
  subst c4
  have H1 : (some false) = some r := by rw [if_neg (show ¬ (false = true) by decide)] at H; exact H
  clear H
  have H := H1
  clear H1
  obtain rfl := Option.some.inj H
  go_enter Try.func123, Try.ntmps123
  go_wp2_with (first | ((with_reducible refine gate_callee (f := 129) rfl ?_); refine gl (some 7) Try.func129 #[.int .i64 a0, .int .i64 1, .int .i64 a1] ?_; (with_reducible refine (impl_within.calls a0 1 a1 false _ A3.out).mono ?_); rintro e w' ⟨rfl, ⟨nd, rfl⟩⟩; refine ⟨_, rfl, ?_⟩))
  go_ret
  exact ⟨by first | rfl | (simp [errW_none, errW_some] <;> rfl) | (simp [*, errW_none, errW_some] <;> rfl), bk HB.out⟩

/-! ### impl_unitsOf: function 107 -/
def impl_unitsOf.l0 : Nat → Int → List Int → Int → Option (List Int)
 | 0, _, _, _ => none
 | k + 1, x0, x3, x4 => if x4 ≤ x0 then ((impl_isPrimeTo.f k x4 x0).bind fun t350 => (if t350 = true then (if x3.length < 17592186044416 then (impl_unitsOf.l0 k x0 (x3 ++ [x4]) (wrap64 (x4 + 1))) else (none)) else (impl_unitsOf.l0 k x0 x3 (wrap64 (x4 + 1))))) else (some x3)
def impl_unitsOf.f (k : Nat) (a0 : Int) : Option (List Int) := impl_unitsOf.l0 k a0 (([] : List Int)) 1
theorem impl_unitsOf.mono_l : ∀ k, (∀ y0 y1 y2, LeO (impl_unitsOf.l0 k y0 y1 y2) (impl_unitsOf.l0 (k + 1) y0 y1 y2))
 | 0 => fun _ _ _ r h => by simp [impl_unitsOf.l0] at h
 | k + 1 => by
  have ih0 := impl_unitsOf.mono_l k
  ·intro y0 y1 y2
   unfold impl_unitsOf.l0
   repeat' first | (with_reducible first | exact ih0 _ _ _ | exact impl_isPrimeTo.mono _ _ _ | exact LeO.refl _ | exact LeO.none _ | refine LeO.ite ?_ ?_ | refine LeO.bind ?_ (fun _ => ?_)) | exact ih0 _ _ _ | exact LeO.none _ | refine LeO.ite ?_ ?_ | refine LeO.bind ?_ (fun _ => ?_)
theorem impl_unitsOf.mono : ∀ a0 k, LeO (impl_unitsOf.f k a0) (impl_unitsOf.f (k + 1) a0) := by
 intro a0 k
 have ih0 := impl_unitsOf.mono_l k
 unfold impl_unitsOf.f
 repeat' first | (with_reducible first | exact ih0 _ _ _ | exact impl_isPrimeTo.mono _ _ _ | exact LeO.refl _ | exact LeO.none _ | refine LeO.ite ?_ ?_ | refine LeO.bind ?_ (fun _ => ?_)) | exact ih0 _ _ _ | exact LeO.none _ | refine LeO.ite ?_ ?_ | refine LeO.bind ?_ (fun _ => ?_)
set_option maxHeartbeats 8000000 in
set_option maxRecDepth 100000 in
theorem impl_unitsOf.calls (k : Nat) (a0 : Int) (r : List Int) (w : World) (h : impl_unitsOf.f k a0 = some r) :
  Calls Try.prog 107 #[.int .i64 a0] w fun e w' => ∃ v0_ : Value, e = .returned (v0_) ∧ Kd.R (Kd.int .i64) 2 w' w.heap.size (fun _ => True) v0_ r ∧ Below w.heap.size w w' := by
 have HB := Aside0.mk (Below.refl w.heap.size w)
 have H : (impl_unitsOf.l0 k a0 (([] : List Int)) 1) = some r := h
 clear h
 obtain ⟨y347, hy347⟩ : ∃ y_ : List Int, y_ = (([] : List Int)) := ⟨_, rfl⟩
 replace H : (impl_unitsOf.l0 k a0 y347 1) = some r := by first | (rw [hy347]; with_reducible exact H) | (have H2_ := (Option.bind_some _ _).symm.trans H; rw [hy347]; with_reducible exact H2_) | (have H2_ := (Option.bind_some _ _).symm.trans H; with_reducible exact H2_) | with_reducible exact H | (rw [hy347]; exact H) | exact H
 have Ny347 := Aside0.mk hy347
 clear hy347
 have H' := Aside0.mk H
 clear H
 go_enter Try.func107, Try.ntmps107
 go_wp2_with (first | ((with_reducible refine gate_dst (N := 5) rfl ?_); refine Kd.R_lit (Kd.int .i64) _ 2 ?hg (N := 5) ?hd (xs := ([] : List Int)) (inner := []) (ok := fun _ => True) (okp := fun _ => True) ?hr ?hp (fun _ hk => hk) trivial (Below.refl _ _) (Nat.le_refl _) (by simp) ?_; (case hd => rfl); (case hg => rfl); (case hr => first | (go_simp; done) | (go_simp; rfl)); (case hp => exact (Reps.none _ _)); intro v348 w2 ho3 hb hg_ hnew_; clear hg_ hnew_; (first | rw [← Ny347.out] at ho3 | (simp only [Int.reduceToNat] at ho3; rw [← Ny347.out] at ho3)); have HO349 := Aside0.mk (Kd.R_lower ho3 (below_size (bk HB.out))); replace HB := hs HB hb; clear hb ho3))
 go_loopg [3, 4] k (fun kq v3 v4 w' => ∃ (x3_1 : List Int) (x4_1 : Int), v4 = .int .i64 x4_1 ∧ Aside0 (impl_unitsOf.l0 kq a0 x3_1 x4_1 = some r) ∧ Aside0 (kq ≤ k) ∧ Aside0 (Kd.R (Kd.int .i64) 2 w' w.heap.size (fun _ => True) v3 x3_1) ∧ Aside0 (Below w.heap.size w w'))
 case atStart => exact ⟨(y347), (1), (by first | rfl | (simp; done) | (simp [*]; done)), H', ⟨Nat.le_refl _⟩, ⟨rk HO349.out⟩, ⟨bk HB.out⟩⟩
 case round =>
  clear H'
  try clear c1; try clear p2
  obtain ⟨x3_1, x4_1, rfl, HA, HK1, HO_3, HB⟩ := hrel
  cases gk with
  | zero => exact absurd HA.out (by simp [impl_unitsOf.l0])
  | succ k1 =>
   have H := HA.out
   clear HA
   simp only [impl_unitsOf.l0] at H
   by_cases c4 : x4_1 ≤ a0
   ·rw [if_pos c4] at H
    have c4b0 : decide (x4_1 ≤ a0) = true := decide_eq_true c4
    clear c4
    replace H := Option.bind_eq_some_iff.mp H
    obtain ⟨t350, A50, H⟩ := H
    try dsimp only at H
    have A5 := Aside0.mk A50
    clear A50
    by_cases c6 : t350 = true
    ·subst c6
     have H1 : (if x3_1.length < 17592186044416 then (impl_unitsOf.l0 k1 a0 (x3_1 ++ [x4_1]) (wrap64 (x4_1 + 1))) else (none)) = some r := by rw [if_pos rfl] at H; exact H
     clear H
     have H := H1
     clear H1
     by_cases c7 : x3_1.length < 17592186044416
     rotate_left
     ·rw [if_neg c7] at H; exact absurd H (by simp)
     rw [if_pos c7] at H
     have LMc7 := Aside0.mk c7
     clear c7
     obtain ⟨y351, hy351⟩ : ∃ y_ : List Int, y_ = (x3_1 ++ [x4_1]) := ⟨_, rfl⟩
     replace H : (impl_unitsOf.l0 k1 a0 y351 (wrap64 (x4_1 + 1))) = some r := by first | (rw [hy351]; with_reducible exact H) | (have H2_ := (Option.bind_some _ _).symm.trans H; rw [hy351]; with_reducible exact H2_) | (have H2_ := (Option.bind_some _ _).symm.trans H; with_reducible exact H2_) | with_reducible exact H | (rw [hy351]; exact H) | exact H
     have Ny351 := Aside0.mk hy351
     clear hy351
     have H' := Aside0.mk H
     clear H
     go_wp2_with (first | ((with_reducible refine gate_callee (f := 123) rfl ?_); refine gl (some 13) Try.func123 #[.int .i64 x4_1, .int .i64 a0] ?_; (with_reducible refine (impl_isPrimeTo.calls k1 x4_1 a0 true _ A5.out).mono ?_); rintro e w8 ⟨rfl, hb⟩; refine ⟨_, rfl, ?_⟩; replace HO_3 := rb HO_3 hb; replace HB := hs HB hb; (try clear hb)) | ((with_reducible refine gate_builtin (b := .append) (xs := #[.tmp 14, .tmp 16]) rfl ?_); at_builtin; refine Kd.R_append (Kd.int .i64) (w0 := w) w.heap.size rfl (.tmp 14) (.tmp 16) 22 2 (.int .i64 0) 8 rfl Try.underlying22 info2 rfl (by decide) (by omega) u3 x3_1 x4_1 [.int .i64 x4_1] (fun _ => True) (fun _ => False) rfl rfl ?aP (fun _ hk => hk.elim) ?aF ?aO ?aB ?aS ?aL ?_; (case aP => exact rfl); (case aB => exact (bk HB.out)); (case aF => exact (fun _ _ => trivial)); (case aO => exact (rk HO_3.out)); (case aS => exact (below_size (bk HB.out))); (case aL => have := LMc7.out; omega); intro v352 w9 ho hb hg hat; rw [← Ny351.out] at ho; have HO353 := Aside0.mk ho; replace HB := Aside0.mk hb; clear HO_3 ho hb hg hat))
     go_roundg k1
     case measure => have := HK1.out; omega
     case rel => exact ⟨(y351), (wrap64 (x4_1 + 1)), (by first | rfl | (simp; done) | (simp [*]; done)), H', ⟨by have := HK1.out; omega⟩, ⟨rk HO353.out⟩, ⟨bk HB.out⟩⟩
    ·replace c6 := Bool.eq_false_iff.mpr c6
     subst c6
     have H1 : (impl_unitsOf.l0 k1 a0 x3_1 (wrap64 (x4_1 + 1))) = some r := by rw [if_neg (show ¬ (false = true) by decide)] at H; exact H
     clear H
     have H := H1
     clear H1
     have H' := Aside0.mk H
     clear H
     go_wp2_with (first | ((with_reducible refine gate_callee (f := 123) rfl ?_); refine gl (some 13) Try.func123 #[.int .i64 x4_1, .int .i64 a0] ?_; (with_reducible refine (impl_isPrimeTo.calls k1 x4_1 a0 false _ A5.out).mono ?_); rintro e w10 ⟨rfl, hb⟩; refine ⟨_, rfl, ?_⟩; replace HO_3 := rb HO_3 hb; replace HB := hs HB hb; (try clear hb)))
     go_roundg k1
     case measure => have := HK1.out; omega
     case rel => exact ⟨(x3_1), (wrap64 (x4_1 + 1)), (by first | rfl | (simp; done) | (simp [*]; done)), H', ⟨by have := HK1.out; omega⟩, ⟨rk HO_3.out⟩, ⟨bk HB.out⟩⟩
   ·rw [if_neg c4] at H
    have c4b0 : decide (x4_1 ≤ a0) = false := decide_eq_false c4
    clear c4
    obtain rfl := Option.some.inj H
    go_wp2
    go_ret
    exact ⟨_, by first | rfl | (simp [errW_none, errW_some] <;> rfl) | (simp [*, errW_none, errW_some] <;> rfl), rk HO_3.out, bk HB.out⟩

/-! ### impl_around: function 185 -/
def impl_around.f (a0 : Int) (a1 : Int) : Option (Int) := if a1 = 0 then (none) else (some (Int.tmod (wrap64 ((Int.tmod a0 a1) + a1)) a1))
set_option maxHeartbeats 8000000 in
set_option maxRecDepth 100000 in
theorem impl_around.calls (a0 : Int) (a1 : Int) (r : Int) (w : World) (h : impl_around.f a0 a1 = some r) :
  Calls Try.prog 185 #[.int .i64 a0, .int .i64 a1] w fun e w' => e = .returned (.int .i64 r) ∧ Drawn0 w w' := by
 have H : (if a1 = 0 then (none) else (some (Int.tmod (wrap64 ((Int.tmod a0 a1) + a1)) a1))) = some r := h
 clear h
 by_cases c3 : a1 = 0
 ·rw [if_pos c3] at H; exact absurd H (by simp)
 rw [if_neg c3] at H
 have c3b0 : (a1 == 0) = false := beq_eq_false_iff_ne.mpr c3
 have c3b1 : (a1 != 0) = true := bne_iff_ne.mpr c3
 obtain rfl := Option.some.inj H
 go_enter Try.func185, Try.ntmps185
 go_wp2
 go_ret
 exact ⟨by first | rfl | (simp; done) | (simp [*]; done), by repeat (first | exact Drawn0.refl _ | apply Drawn0.step)⟩

/-! ### impl_field_with, BY HAND: function 135 -/
mutual
def impl_field_with.l0 (pf : Int → Option Int) : Nat → List Int → List Int → Int → Int → Int → List (List Int) → Option (List Int)
  | 0, _, _, _, _, _, _ => none
  | k + 1, x7, x17, x18, x19, x1000, x1002 => if x19 < x18 then (if 0 ≤ x19 then (if x19 < (x17.length : Int) then ((pf x19).bind fun t229 => ((impl_around.f t229 x1000).bind fun t230 => (if 0 ≤ t230 then (if t230 < (x1002.length : Int) then (impl_field_with.l1 pf k x7 (rd x17 x19) x17 x18 x19 (rd_L1 x1002 t230) ((rd_L1 x1002 t230).length : Int) 0 x1000 x1002) else (none)) else (none)))) else (none)) else (none)) else (some (x7))
def impl_field_with.l1 (pf : Int → Option Int) : Nat → List Int → Int → List Int → Int → Int → List Int → Int → Int → Int → List (List Int) → Option (List Int)
  | 0, _, _, _, _, _, _, _, _, _, _ => none
  | k + 1, x7, x9, x17, x18, x19, x37, x38, x39, x1000, x1002 => if x39 < x38 then (if 0 ≤ x39 then (if x39 < (x37.length : Int) then (if x39 < (x7.length : Int) then (impl_field_with.l1 pf k (x7.set (x39 : Int).toNat (wrap64 ((rd x7 x39) + (wrap64 (x9 * (rd x37 x39)))))) x9 x17 x18 x19 x37 x38 (wrap64 (x39 + 1)) x1000 x1002) else (none)) else (none)) else (none)) else (impl_field_with.l0 pf k x7 x17 x18 (wrap64 (x19 + 1)) x1000 x1002)
end
def impl_field_with.f (pf : Int → Option Int) (k : Nat) (s0_0 : Int) (s0_1 : Int) (s0_2 : List (List Int)) (l1 : List Int) : Option (List Int) := if 0 ≤ s0_1 then (if (s0_1 : Int).toNat ≤ 35184372088832 then (impl_field_with.l0 pf k (List.replicate (s0_1 : Int).toNat 0) l1 (l1.length : Int) 0 s0_0 s0_2) else (none)) else (none)
theorem impl_field_with.mono_l (pf : Int → Option Int) : ∀ k, (∀ y0 y1 y2 y3 y4 y5, LeO (impl_field_with.l0 pf k y0 y1 y2 y3 y4 y5) (impl_field_with.l0 pf (k + 1) y0 y1 y2 y3 y4 y5)) ∧ (∀ y0 y1 y2 y3 y4 y5 y6 y7 y8 y9, LeO (impl_field_with.l1 pf k y0 y1 y2 y3 y4 y5 y6 y7 y8 y9) (impl_field_with.l1 pf (k + 1) y0 y1 y2 y3 y4 y5 y6 y7 y8 y9))
  | 0 => ⟨fun _ _ _ _ _ _ r h => by simp [impl_field_with.l0] at h, fun _ _ _ _ _ _ _ _ _ _ r h => by simp [impl_field_with.l1] at h⟩
  | k + 1 => by
    obtain ⟨ih0, ih1⟩ := impl_field_with.mono_l pf k
    refine ⟨?_, ?_⟩
    · intro y0 y1 y2 y3 y4 y5
      unfold impl_field_with.l0
      repeat' first | (with_reducible first | exact ih0 _ _ _ _ _ _ | exact ih1 _ _ _ _ _ _ _ _ _ _ | exact LeO.refl _ | exact LeO.none _ | refine LeO.ite ?_ ?_ | refine LeO.bind ?_ (fun _ => ?_)) | exact ih0 _ _ _ _ _ _ | exact ih1 _ _ _ _ _ _ _ _ _ _ | exact LeO.none _ | refine LeO.ite ?_ ?_ | refine LeO.bind ?_ (fun _ => ?_)
    · intro y0 y1 y2 y3 y4 y5 y6 y7 y8 y9
      unfold impl_field_with.l1
      repeat' first | (with_reducible first | exact ih0 _ _ _ _ _ _ | exact ih1 _ _ _ _ _ _ _ _ _ _ | exact LeO.refl _ | exact LeO.none _ | refine LeO.ite ?_ ?_ | refine LeO.bind ?_ (fun _ => ?_)) | exact ih0 _ _ _ _ _ _ | exact ih1 _ _ _ _ _ _ _ _ _ _ | exact LeO.none _ | refine LeO.ite ?_ ?_ | refine LeO.bind ?_ (fun _ => ?_)
theorem impl_field_with.mono (pf : Int → Option Int) : ∀ a0 a1 a2 a3 k, LeO (impl_field_with.f pf k a0 a1 a2 a3) (impl_field_with.f pf (k + 1) a0 a1 a2 a3) := by
  intro a0 a1 a2 a3 k
  obtain ⟨ih0, ih1⟩ := impl_field_with.mono_l pf k
  unfold impl_field_with.f
  repeat' first | (with_reducible first | exact ih0 _ _ _ _ _ _ | exact ih1 _ _ _ _ _ _ _ _ _ _ | exact LeO.refl _ | exact LeO.none _ | refine LeO.ite ?_ ?_ | refine LeO.bind ?_ (fun _ => ?_)) | exact ih0 _ _ _ _ _ _ | exact ih1 _ _ _ _ _ _ _ _ _ _ | exact LeO.none _ | refine LeO.ite ?_ ?_ | refine LeO.bind ?_ (fun _ => ?_)
def impl_field_with.T5 : Bool × List (List Nat × List Nat) := (true, [([], []), ([0], [0]), ([1], [1]), ([2], [2]), ([], []), ([], []), ([4, 5], [4, 5]), ([], []), ([7], [7]), ([8], [8]), ([9], [9]), ([6, 10, 6], [6, 10]), ([3, 11], [3, 11]), ([12], [12]), ([13], [13]), ([], [])])
def impl_field_with.B5 : List Nat := [0, 1, 3, 7, 0, 0, 48, 0, 128, 384, 896, 2032, 4095, 8191, 16383, 0]
theorem impl_field_with.tab5 : rtab .any (opsOf Try.f135 5) = impl_field_with.T5 := by kernel_rfl
theorem impl_field_with.bits5 : waitsOk impl_field_with.T5.2 impl_field_with.B5 = true := by kernel_rfl
set_option maxHeartbeats 8000000 in
set_option maxRecDepth 100000 in
theorem impl_field_with.calls (pf : Int → Option Int) (fid : FuncId) (fn : Func) (cap : Array Value) (k : Nat) (g : Nat) (s0_0 : Int) (s0_1 : Int) (s0_2 : List (List Int)) (Ap : Option Addr) (cp : Nat) (A1 : Option Addr) (c1 : Nat) (l1 : List Int) (r : List Int) (w : World)
    (hfn : Try.prog.funcs[fid]? = some fn) (hnm : (fn.name == "runtime.NumGoroutine") = false) (hbd : fn.body.isSome = true)
    (hF : ∀ (a r : Int) (W : World), Below w.heap.size w W → pf a = some r → Calls Try.prog fid (#[.int .i64 a] ++ cap) W fun e w' => e = .returned (.int .i64 r) ∧ Below W.heap.size W w')
    (hG : w.heap[g]? = some (.cells #[.int .i64 s0_0, .int .i64 s0_1, .slice Ap s0_2.length cp] 84 (0, 0))) (hP : Kd.C (Kd.slice 2 (Kd.int .i64)) w Ap s0_2.length s0_2)
    (hr1 : Kd.C (Kd.int .i64) w A1 l1.length l1) (h : impl_field_with.f pf k s0_0 s0_1 s0_2 l1 = some r) :
    Calls Try.prog 135 #[.pointer (some ⟨g, 0, none⟩), .slice A1 l1.length c1, .func (.func fid) #[] cap] w fun e w' => ∃ v0_ : Value, e = .returned (v0_) ∧ Kd.R (Kd.int .i64) 2 w' w.heap.size (fun _ => True) v0_ r ∧ Below w.heap.size w w' := by
  have HR1 := Aside0.mk hr1
  have HP := Aside0.mk hP
  have HG := Aside0.mk hG
  have HF := Aside0.mk hF
  have HFN := Aside0.mk hfn
  have HNM := Aside0.mk hnm
  have HBD := Aside0.mk hbd
  clear hr1 hP hG hF hfn hnm hbd
  have HB := Aside0.mk (Below.refl w.heap.size w)
  have H := h
  unfold impl_field_with.f at H
  clear h
  by_cases c4 : 0 ≤ s0_1
  rotate_left
  · rw [if_neg c4] at H; exact absurd H (by simp)
  rw [if_pos c4] at H
  have c4b0 := eq_true c4
  have c4b1 : decide (0 ≤ s0_1) = true := decide_eq_true c4
  clear c4
  by_cases c5 : (s0_1 : Int).toNat ≤ 35184372088832
  rotate_left
  · rw [if_neg c5] at H; exact absurd H (by simp)
  rw [if_pos c5] at H
  have c5b0 := eq_true c5
  have c5b1 : decide ((s0_1 : Int).toNat ≤ 35184372088832) = true := decide_eq_true c5
  clear c5
  obtain ⟨y225, hy225⟩ : ∃ y_ : List Int, y_ = (List.replicate (s0_1 : Int).toNat 0) := ⟨_, rfl⟩
  replace H : (impl_field_with.l0 pf k y225 l1 (l1.length : Int) 0 s0_0 s0_2) = some r := by first | (rw [hy225]; with_reducible exact H) | (have H2_ := (Option.bind_some _ _).symm.trans H; rw [hy225]; with_reducible exact H2_) | (have H2_ := (Option.bind_some _ _).symm.trans H; with_reducible exact H2_) | with_reducible exact H | (rw [hy225]; exact H) | exact H
  have Ny225 := Aside0.mk hy225
  clear hy225
  have H' := Aside0.mk H
  clear H
  have hcz6_0 : w.cell? ⟨g, 0, none⟩ = some (.int .i64 s0_0) := (blk_cell HG.out 0).trans rfl
  have hcz6_1 : w.cell? ⟨g, 1, none⟩ = some (.int .i64 s0_1) := (blk_cell HG.out 1).trans rfl
  go_enter Try.func135, Try.ntmps135
  go_wp2_with (first | ((with_reducible refine gate_dst (N := 16) rfl ?_); refine Kd.R_make (Kd.int .i64) _ 2 rfl (N := 16) rfl 22 _ _ rfl s0_1 rfl rfl Try.underlying22 (.int .i64 0) 8 info2 rfl (by decide) (by omega) 0 (ok := fun _ => True) (okp := fun _ => True) rfl (fun _ hk => hk) trivial (of_decide_eq_true (by first | (with_reducible assumption) | assumption)) (Nat.le_trans (Nat.mul_le_mul_right _ (of_decide_eq_true (by first | (with_reducible assumption) | assumption) : s0_1.toNat ≤ 35184372088832)) (by omega)) (Below.refl _ _) (Nat.le_refl _) ?_; intro v226 w7 ho8 hb hg_ hnew_; clear hg_ hnew_; (first | rw [← Ny225.out] at ho8 | (simp only [Int.reduceToNat] at ho8; rw [← Ny225.out] at ho8)); have HO227 := Aside0.mk (Kd.R_lower ho8 (below_size (bk HB.out))); replace HB := hs HB hb; clear hb ho8))
  go_loopg [19] k (fun kq v19 w' => ∃ (x7_1 : List Int) (x19_1 : Int), v19 = .int .i64 x19_1 ∧ Aside0 (impl_field_with.l0 pf kq x7_1 l1 (l1.length : Int) x19_1 s0_0 s0_2 = some r) ∧ Aside0 (kq ≤ k) ∧ Aside0 (Kd.R (Kd.int .i64) 2 w' w.heap.size (fun _ => True) v226 x7_1) ∧ Aside0 (Below w.heap.size w w'))
  case atStart => exact ⟨(y225), (0), (by first | rfl | (simp; done) | (simp [*]; done)), H', ⟨Nat.le_refl _⟩, ⟨rk HO227.out⟩, ⟨bk HB.out⟩⟩
  case round =>
    clear H'
    try clear c1; try clear p2; try clear c4; try clear c4b0; try clear c4b1; try clear c5; try clear c5b0; try clear c5b1; try clear hcz6_0; try clear hcz6_1; try clear hcz6_2; try clear hfz6_0; try clear hfz6_1
    obtain ⟨x7_1, x19_1, rfl, HA, HK1, HO_7, HB⟩ := hrel
    cases gk with
    | zero => exact absurd HA.out (by simp [impl_field_with.l0])
    | succ k1 =>
      have H := HA.out
      clear HA
      simp only [impl_field_with.l0] at H
      by_cases c9 : x19_1 < (l1.length : Int)
      · rw [if_pos c9] at H
        have c9b0 : decide (x19_1 < (l1.length : Int)) = true := decide_eq_true c9
        clear c9
        by_cases c10 : 0 ≤ x19_1
        rotate_left
        · rw [if_neg c10] at H; exact absurd H (by simp)
        rw [if_pos c10] at H
        have c10b0 : decide (0 ≤ x19_1) = true := decide_eq_true c10
        clear c10
        by_cases c11 : x19_1 < (l1.length : Int)
        rotate_left
        · rw [if_neg c11] at H; exact absurd H (by simp)
        rw [if_pos c11] at H
        have c11b0 : decide (x19_1 < (l1.length : Int)) = true := decide_eq_true c11
        clear c11
        replace H := Option.bind_eq_some_iff.mp H
        obtain ⟨t229, A120, H⟩ := H
        try dsimp only at H
        have A12 := Aside0.mk A120
        clear A120
        replace H := Option.bind_eq_some_iff.mp H
        obtain ⟨t230, A130, H⟩ := H
        try dsimp only at H
        have A13 := Aside0.mk A130
        clear A130
        by_cases c14 : 0 ≤ t230
        rotate_left
        · rw [if_neg c14] at H; exact absurd H (by simp)
        rw [if_pos c14] at H
        have c14b0 : decide (0 ≤ t230) = true := decide_eq_true c14
        clear c14
        by_cases c15 : t230 < (s0_2.length : Int)
        rotate_left
        · rw [if_neg c15] at H; exact absurd H (by simp)
        rw [if_pos c15] at H
        have c15b0 : decide (t230 < (s0_2.length : Int)) = true := decide_eq_true c15
        clear c15
        have H' := Aside0.mk H
        clear H
        have p228 : 0 ≤ (x19_1 : Int) := of_decide_eq_true (by first | (with_reducible assumption) | assumption)
        have q228 : x19_1 < (l1.length : Int) := of_decide_eq_true (by first | (with_reducible assumption) | assumption)
        obtain ⟨ad228, e228, hx228_0⟩ := Kd.at_int HR1.out x19_1 p228 q228
        cases e228
        replace hx228_0 := pw_cell_below HB.out hx228_0
        replace p228 := eq_true p228
        replace q228 := eq_true q228
        have p231 : 0 ≤ (t230 : Int) := of_decide_eq_true (by first | (with_reducible assumption) | assumption)
        have q231 : t230 < (s0_2.length : Int) := of_decide_eq_true (by first | (with_reducible assumption) | assumption)
        obtain ⟨ad231, A231_0, c231_0, e231, hx231_0, hl231_0, hi231_0⟩ := at_L1 HP.out t230 p231 q231
        cases e231
        replace hx231_0 := pw_cell_below HB.out hx231_0
        have HR231_0 := Aside0.mk hi231_0
        have HC231_0 := Aside0.mk hl231_0
        clear hi231_0 hl231_0
        replace p231 := eq_true p231
        replace q231 := eq_true q231
        have hcz16_0 := pw_cell_below HB.out ((blk_cell HG.out 0).trans rfl : w.cell? ⟨g, 0, none⟩ = some (.int .i64 s0_0))
        have hcz16_2 := pw_cell_below HB.out ((blk_cell HG.out 2).trans rfl : w.cell? ⟨g, 2, none⟩ = some (.slice (some ad231) s0_2.length cp))
        try go_wp2
        have HB0 := HB
        have HX0 := Aside0.mk hx231_0
        have HX1 := Aside0.mk hcz16_0
        have HX2 := Aside0.mk hcz16_2
        replace HO_7 := rd0 HO_7
        replace HB := hd0 HB
        refine start_ (n := 16) (S := fun w' => w'.cell? ⟨g, 0, none⟩ = some (.int .i64 s0_0) ∧ w'.cell? ⟨g, 2, none⟩ = some (.slice (some ad231) s0_2.length cp) ∧ w'.cell? (ad231.add t230.toNat) = some (.slice A231_0 (rd_L1 s0_2 t230).length c231_0)) (ds := []) #[false, false, false, false, false, false, false, false, false, false, false, false, false, false, false, false] (by kernel_rfl) rfl rfl ⟨hcz16_0, hcz16_2, hx231_0⟩ (fun hHeld => ?_); refine with_tabW impl_field_with.tab5 impl_field_with.bits5 (fun HT_ HW_ => ?_)
        clear hcz16_0 hcz16_2 hx231_0 hx228_0
        generalize World.drew _ = w16 at HO_7 HB hHeld ⊢
        refine pu 0 (some 24) HT_ ?_
        refine pu 1 (some 25) HT_ ?_
        refine pu 2 (some 26) HT_ ?_
        refine pu 4 (some 28) HT_ ?_
        refine pu 5 (some 29) HT_ ?_
        refine pu 7 (some 31) HT_ ?_
        refine pu 8 (some 32) HT_ ?_
        refine pu 9 (some 33) HT_ ?_
        refine pu 15 (some 39) HT_ ?_
        refine tk 3 (some 27) HT_ HW_ hHeld ?_ (hy := by rintro w' ⟨s0, s1, s2⟩; go_simp; with_reducible rfl)
        refine tk 10 (some 34) HT_ HW_ hHeld ?_ (hy := by rintro w' ⟨s0, s1, s2⟩; go_simp; with_reducible rfl)
        refine on 6 (some 30) HT_ (fun K hK => ?_)
        refine goesV_ HFN.out HNM.out HBD.out #[.int .i64 x19_1] cap (by rfl) rfl rfl rfl (by first | done | rfl | (simp only [List.map_toArray, List.map_cons, List.map_nil]; rfl)) ?_
        refine (HF.out x19_1 t229 _ HB.out A12.out).mono ?_
        rintro e w17 ⟨rfl, hb⟩
        refine ⟨_, rfl, ?_⟩
        replace HO_7 := rb HO_7 hb
        replace HB := hs HB hb
        refine hK.out _ _ ⟨pw_cell_below hb hHeld.1, pw_cell_below hb hHeld.2.1, pw_cell_below hb hHeld.2.2⟩ (fun hHeld => ?_)
        clear hb hK K
        refine on 11 (some 35) HT_ (fun K hK => ?_)
        refine gs Try.func185 #[.int .i64 t229, .int .i64 s0_0] ?_
        refine (impl_around.calls t229 s0_0 t230 _ A13.out).mono ?_
        rintro e w' ⟨rfl, ⟨nd, rfl⟩⟩
        refine ⟨_, rfl, ?_⟩
        refine hK.out _ _ ⟨hHeld.1, hHeld.2.1, hHeld.2.2⟩ (fun hHeld => ?_)
        clear hK K
        refine pu 12 (some 36) HT_ ?_
        refine tk 13 (some 37) HT_ HW_ hHeld ?_ (hy := by rintro w' ⟨s0, s1, s2⟩; go_simp; with_reducible rfl)
        refine pu 14 (some 38) HT_ ?_
        refine done_ (done_of HT_.out (by kernel_rfl)) ?_
        clear hHeld HT_ HW_
        try go_wp2
        go_loopg [39] k1 (fun kq v39 w' => ∃ (x7_2 : List Int) (x39_2 : Int), v39 = .int .i64 x39_2 ∧ Aside0 (impl_field_with.l1 pf kq x7_2 (rd l1 x19_1) l1 (l1.length : Int) x19_1 (rd_L1 s0_2 t230) ((rd_L1 s0_2 t230).length : Int) x39_2 s0_0 s0_2 = some r) ∧ Aside0 (kq ≤ k1) ∧ Aside0 (Kd.R (Kd.int .i64) 2 w' w.heap.size (fun _ => True) v226 x7_2) ∧ Aside0 (Below w.heap.size w w'))
        case atStart => exact ⟨(x7_1), (0), (by first | rfl | (simp; done) | (simp [*]; done)), H', ⟨Nat.le_refl _⟩, ⟨rk HO_7.out⟩, ⟨bk HB.out⟩⟩
        case round =>
          clear H'
          try clear c1; try clear c2; try clear p2; try clear q2; try clear hx2; try clear c4; try clear c4b0; try clear c4b1; try clear c5; try clear c5b0; try clear c5b1; try clear c9; try clear c9b0; try clear c10; try clear c10b0; try clear c11; try clear c11b0; try clear c12; try clear c14; try clear c14b0; try clear c15; try clear c15b0; try clear hcz16_0; try clear hcz16_1; try clear hcz16_2; try clear hcz18_0; try clear hcz18_1; try clear hcz18_2; try clear hcz6_0; try clear hcz6_1; try clear hcz6_2; try clear hfz16_0; try clear hfz16_1; try clear hfz18_0; try clear hfz18_1; try clear hfz6_0; try clear hfz6_1; try clear hx228_0; try clear hx231_0; try clear p2; try clear p228; try clear p231; try clear q228; try clear q231
          obtain ⟨x7_2, x39_2, rfl, HA, HK2, HO_7, HB⟩ := hrel
          cases gk with
          | zero => exact absurd HA.out (by simp [impl_field_with.l1])
          | succ k2 =>
            have H := HA.out
            clear HA
            simp only [impl_field_with.l1] at H
            by_cases c19 : x39_2 < ((rd_L1 s0_2 t230).length : Int)
            · rw [if_pos c19] at H
              have c19b0 : decide (x39_2 < ((rd_L1 s0_2 t230).length : Int)) = true := decide_eq_true c19
              clear c19
              by_cases c20 : 0 ≤ x39_2
              rotate_left
              · rw [if_neg c20] at H; exact absurd H (by simp)
              rw [if_pos c20] at H
              have c20b0 : decide (0 ≤ x39_2) = true := decide_eq_true c20
              clear c20
              by_cases c21 : x39_2 < ((rd_L1 s0_2 t230).length : Int)
              rotate_left
              · rw [if_neg c21] at H; exact absurd H (by simp)
              rw [if_pos c21] at H
              have c21b0 : decide (x39_2 < ((rd_L1 s0_2 t230).length : Int)) = true := decide_eq_true c21
              clear c21
              by_cases c22 : x39_2 < (x7_2.length : Int)
              rotate_left
              · rw [if_neg c22] at H; exact absurd H (by simp)
              rw [if_pos c22] at H
              have c22b0 : decide (x39_2 < (x7_2.length : Int)) = true := decide_eq_true c22
              clear c22
              obtain ⟨y234, hy234⟩ : ∃ y_ : List Int, y_ = (x7_2.set (x39_2 : Int).toNat (wrap64 ((rd x7_2 x39_2) + (wrap64 ((rd l1 x19_1) * (rd (rd_L1 s0_2 t230) x39_2)))))) := ⟨_, rfl⟩
              replace H : (impl_field_with.l1 pf k2 y234 (rd l1 x19_1) l1 (l1.length : Int) x19_1 (rd_L1 s0_2 t230) ((rd_L1 s0_2 t230).length : Int) (wrap64 (x39_2 + 1)) s0_0 s0_2) = some r := by first | (rw [hy234]; with_reducible exact H) | (have H2_ := (Option.bind_some _ _).symm.trans H; rw [hy234]; with_reducible exact H2_) | (have H2_ := (Option.bind_some _ _).symm.trans H; with_reducible exact H2_) | with_reducible exact H | (rw [hy234]; exact H) | exact H
              have Ny234 := Aside0.mk hy234
              clear hy234
              have H' := Aside0.mk H
              clear H
              have p232 : 0 ≤ (x39_2 : Int) := of_decide_eq_true (by first | (with_reducible assumption) | assumption)
              have q232 : x39_2 < ((rd_L1 s0_2 t230).length : Int) := of_decide_eq_true (by first | (with_reducible assumption) | assumption)
              obtain ⟨ad232, e232, hx232_0⟩ := Kd.at_int HR231_0.out x39_2 p232 q232
              cases e232
              replace hx232_0 := pw_cell_below HB.out hx232_0
              replace p232 := eq_true p232
              replace q232 := eq_true q232
              obtain ⟨Ao24, co24, eo24⟩ := Kd.R_slice HO_7.out
              subst eo24
              have p233 : 0 ≤ (x39_2 : Int) := of_decide_eq_true (by first | (with_reducible assumption) | assumption)
              have q233 : x39_2 < (x7_2.length : Int) := of_decide_eq_true (by first | (with_reducible assumption) | assumption)
              obtain ⟨ad233, e233, hx233_0⟩ := Kd.at_int (Kd.R_reads' HO_7.out).2.2 x39_2 p233 q233
              cases e233
              replace p233 := eq_true p233
              replace q233 := eq_true q233
              have p23 : 0 ≤ (x39_2 : Int) := of_decide_eq_true (by first | (with_reducible assumption) | assumption)
              have q23 : (x39_2 : Int) < ((x7_2.length : Int) : Int) := of_decide_eq_true (by first | (with_reducible assumption) | assumption)
              obtain ⟨go23, co23, eo23, gb23, gl23, cl23, HG23⟩ := Kd.R_form HO_7.out (by omega)
              (first | cases eo23 | (injection eo23 with ea_ en_ ec_; (first | subst ea_ | (injection ea_ with ea_; subst ea_)); subst ec_; clear en_))
              try simp only [add_plain] at *
              have GB23 := Aside0.mk gb23
              have GG23 := Aside0.mk HG23
              clear gb23 gl23 HG23
              (first | simp only [add_plain] at hx233_0 | skip)
              obtain ⟨hx23_0, hf23_0⟩ := Kd.R_celln 0 HO_7.out (x39_2 : Int) p23 q23
              replace p23 := eq_true p23
              replace q23 := eq_true q23
              have HP25 := Kd.R_putg HO_7.out (x39_2 : Int) (wrap64 ((rd x7_2 x39_2) + (wrap64 ((rd l1 x19_1) * (rd (rd_L1 s0_2 t230) x39_2)))))
              go_wp2_with (first | ((with_reducible refine gate_store (t := 2) (p := 52) rfl ?_); refine store_event (t := 2) (p := 52) (v := ?vo_w26) (w1 := (wr.setCell ⟨go23, (x39_2 : Int).toNat, none⟩ (.int .i64 (wrap64 ((rd x7_2 x39_2) + (wrap64 ((rd l1 x19_1) * (rd (rd_L1 s0_2 t230) x39_2)))))))) ?hg ?ho ?hn ?hr ?_; (case ho => rfl); (case hg => rfl); (case hn => rfl); (case hr => first | (go_simp; done) | (go_simp; rfl)); intro w26 hw; have hg : wr.grownBy w26 (some go23) := (by rw [hw]; exact HP25.2); have hp_ : Kd.R (Kd.int .i64) 2 w26 w.heap.size (fun _ => True) (.slice (some ⟨go23, 0, none⟩) x7_2.length co24) y234 := (by rw [hw, Ny234.out]; exact HP25.1); clear HP25; replace HB := Aside0.mk (by rw [hw]; exact below_set (HB.out) GB23.out : Below w.heap.size w w26); replace HO_7 := Aside0.mk hp_; clear hg hw hp_))
              go_roundg k2
              case measure => have := HK1.out; have := HK2.out; omega
              case rel => exact ⟨(y234), (wrap64 (x39_2 + 1)), (by first | rfl | (simp; done) | (simp [*]; done)), H', ⟨by have := HK1.out; have := HK2.out; omega⟩, ⟨rk HO_7.out⟩, ⟨bk HB.out⟩⟩
            · rw [if_neg c19] at H
              have c19b0 : decide (x39_2 < ((rd_L1 s0_2 t230).length : Int)) = false := decide_eq_false c19
              clear c19
              have H' := Aside0.mk H
              clear H
              go_wp2
              go_roundg k2
              case measure => have := HK1.out; have := HK2.out; omega
              case rel => exact ⟨(x7_2), (wrap64 (x19_1 + 1)), (by first | rfl | (simp; done) | (simp [*]; done)), H', ⟨by have := HK1.out; have := HK2.out; omega⟩, ⟨rk HO_7.out⟩, ⟨bk HB.out⟩⟩
      · rw [if_neg c9] at H
        have c9b0 : decide (x19_1 < (l1.length : Int)) = false := decide_eq_false c9
        clear c9
        obtain rfl := Option.some.inj H
        go_wp2
        go_ret
        exact ⟨_, by first | rfl | (simp [*]; done), rk HO_7.out, bk HB.out⟩

/-! ### impl_field_image, BY HAND: function 108 -/
def impl_field_image.f (k : Nat) (a0_0 : Int) (a0_1 : Int) (a0_2 : List (List Int)) (l1 : List Int) (a2 : Int) : Option (List Int) := impl_field_with.f (fun i => some (wrap64 (a2 * i))) k a0_0 a0_1 a0_2 l1
theorem impl_field_image.mono : ∀ a0 a1 a2 a3 a4 k, LeO (impl_field_image.f k a0 a1 a2 a3 a4) (impl_field_image.f (k + 1) a0 a1 a2 a3 a4) := fun _ _ _ _ _ _ => impl_field_with.mono _ _ _ _ _ _
theorem imageCl.calls (g : Nat) (a i r : Int) (W : World) (hc : W.cell? ⟨g, 0, none⟩ = some (.int .i64 a)) (h : (fun i => some (wrap64 (a * i))) i = some r) :
    Calls Try.prog 178 (#[.int .i64 i] ++ #[.pointer (some ⟨g, 0, none⟩)]) W fun e w' => e = .returned (.int .i64 r) ∧ Below W.heap.size W w' := by
  obtain rfl := Option.some.inj h
  go_enter Try.func178, Try.ntmps178
  go_wp2_with fail
  go_ret
  exact ⟨by first | rfl | (simp; done), Below.refl _ _⟩
set_option maxHeartbeats 8000000 in
set_option maxRecDepth 100000 in
theorem impl_field_image.calls {g0 : Nat} (k : Nat) (a0_0 : Int) (a0_1 : Int) (A0_2 : Option Addr) (c0_2 : Nat) (l0_2 : List (List Int)) (A1 : Option Addr) (c1 : Nat) (l1 : List Int) (a2 : Int) (r : List Int) (w : World) (hr0_2 : Kd.C (Kd.slice 2 (Kd.int .i64)) w A0_2 l0_2.length l0_2) (hc0_2 : l0_2.length ≤ c0_2) (hr1 : Kd.C (Kd.int .i64) w A1 l1.length l1) (hc1 : l1.length ≤ c1)
    (hG0 : w.heap[g0]? = some (.cells #[.int .i64 a0_0, .int .i64 a0_1, .slice A0_2 l0_2.length c0_2] 84 (0, 0))) (h : impl_field_image.f k a0_0 a0_1 l0_2 l1 a2 = some r) :
    Calls Try.prog 108 #[.pointer (some ⟨g0, 0, none⟩), .slice A1 l1.length c1, .int .i64 a2] w fun e w' => ∃ v0_ : Value, e = .returned (v0_) ∧ Kd.R (Kd.int .i64) 2 w' w.heap.size (fun _ => True) v0_ r ∧ Below w.heap.size w w' := by
  unfold impl_field_image.f at h
  have A := Aside0.mk h
  have HR0_2 := Aside0.mk hr0_2
  have HR1 := Aside0.mk hr1
  have HG0 := Aside0.mk hG0
  have HB := Aside0.mk (Below.refl w.heap.size w)
  clear h hr0_2 hc0_2 hr1 hc1 hG0
  go_enter Try.func108, Try.ntmps108
  go_wp2_with (first | ((with_reducible refine gate_dst (N := 5) rfl ?_); refine bx 5 #[.int .i64 a2] 2 (fun gb hg w4 hbox hb => ?_); have BK := Aside0.mk hbox; replace HB := hs HB hb; clear hb hbox hg) | ((with_reducible refine gate_callee (f := 135) rfl ?_); refine gl (some 10) Try.func135 #[.pointer (some ⟨g0, 0, none⟩), .slice A1 l1.length c1, .func (.func 178) #[] #[.pointer (some ⟨gb, 0, none⟩)]] ?_; (with_reducible refine (impl_field_with.calls (fun i => some (wrap64 (a2 * i))) 178 _ #[.pointer (some ⟨gb, 0, none⟩)] k g0 a0_0 a0_1 l0_2 A0_2 c0_2 A1 c1 l1 r _ Try.func178 (by kernel_rfl) rfl ?sF ?sG ?sP ?sR A.out).mono ?_); (case sF => exact fun a r W hb_ h_ => imageCl.calls gb a2 a r W (pw_cell_below hb_ ((blk_cell (pk BK.out) 0).trans rfl)) h_); (case sG => exact blk_below HG0.out (bks HB.out)); (case sP => exact Kd.C_below HR0_2.out (bks HB.out)); (case sR => exact Kd.C_below HR1.out (bks HB.out)); rintro e w5 ⟨v, rfl, ho, hb⟩; refine ⟨_, rfl, ?_⟩; have HO := Aside0.mk (Kd.R_lower ho (below_size (bks HB.out))); replace HB := hs HB hb; clear hb ho))
  go_ret
  exact ⟨_, by first | rfl | (simp; done), rk HO.out, bks HB.out⟩

end Go.Proofs.Ytdnpkbhapdkikaa.PFnExactActOnCyclo
