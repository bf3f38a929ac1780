-- LAID BY pp.py (a program of this repo): what the kit's print tells of this seat's functions, with contracts by hand
import Derived.Test.YthkdkiifchefhaaZPFnRingsx0
import Derived.Test.YthkdkiifchefhaaZPFnRingsx1
import Derived.Test.YthkdkiifchefhaaZPFnRingsx2
import Derived.Test.YthkdkiifchefhaaZPFnRingsx3
import Derived.Test.YthkdkiifchefhaaZPFnRingsx7
import Derived.Test.YthkdkiifchefhaaZPFnRingsx8
namespace Go.Proofs.Ythkdkiifchefhaa.PFnRings
open Go.RowKit Go.Proofs.YthkdkiifchefhaaW.PrintWords Go.Proofs.YthkdkiifchefhaaW.PrintLast Go.Proofs.YthkdkiifchefhaaW.PrintMore
attribute [local go_sem] max2_int min2_int max_two min_two max_three min_three max_four min_four   -- for this text's walks alone
set_option linter.unusedVariables false
set_option linter.unusedSimpArgs false

/-! ### laws_likeInts: function 50 -/
def laws_likeInts.l0 : Nat → List Int → List Int → Int → Option (Bool)
 | 0, _, _, _ => none
 | k + 1, x0, x1, x5 => if x5 < (x0.length : Int) then (if 0 ≤ x5 then (if x5 < (x1.length : Int) then (if (rd x0 x5) = (rd x1 x5) then (laws_likeInts.l0 k x0 x1 (wrap64 (x5 + 1))) else (some false)) else (none)) else (none)) else (some true)
def laws_likeInts.f (k : Nat) (l0 : List Int) (l1 : List Int) : Option (Bool) := if (l0.length : Int) = (l1.length : Int) then (laws_likeInts.l0 k l0 l1 0) else (some false)
theorem laws_likeInts.mono_l : ∀ k, (∀ y0 y1 y2, LeO (laws_likeInts.l0 k y0 y1 y2) (laws_likeInts.l0 (k + 1) y0 y1 y2))
 | 0 => fun _ _ _ r h => by simp [laws_likeInts.l0] at h
 | k + 1 => by
  have ih0 := laws_likeInts.mono_l k
  ·intro y0 y1 y2
   unfold laws_likeInts.l0
   repeat' first | (with_reducible first | exact ih0 _ _ _ | exact LeO.refl _ | exact LeO.none _ | refine LeO.ite ?_ ?_ | refine LeO.bind ?_ (fun _ => ?_)) | exact ih0 _ _ _ | exact LeO.none _ | refine LeO.ite ?_ ?_ | refine LeO.bind ?_ (fun _ => ?_)
theorem laws_likeInts.mono : ∀ a0 a1 k, LeO (laws_likeInts.f k a0 a1) (laws_likeInts.f (k + 1) a0 a1) := by
 intro a0 a1 k
 have ih0 := laws_likeInts.mono_l k
 unfold laws_likeInts.f
 repeat' first | (with_reducible first | exact ih0 _ _ _ | exact LeO.refl _ | exact LeO.none _ | refine LeO.ite ?_ ?_ | refine LeO.bind ?_ (fun _ => ?_)) | exact ih0 _ _ _ | exact LeO.none _ | refine LeO.ite ?_ ?_ | refine LeO.bind ?_ (fun _ => ?_)
set_option maxHeartbeats 8000000 in
set_option maxRecDepth 100000 in
theorem laws_likeInts.calls (k : Nat) (A0 : Option Addr) (c0 : Nat) (l0 : List Int) (A1 : Option Addr) (c1 : Nat) (l1 : List Int) (r : Bool) (w : World) (hr0 : Kd.C (Kd.int .i64) w A0 l0.length l0) (hc0 : l0.length ≤ c0) (hr1 : Kd.C (Kd.int .i64) w A1 l1.length l1) (hc1 : l1.length ≤ c1) (h : laws_likeInts.f k l0 l1 = some r) :
  Calls Try.prog 50 #[.slice A0 l0.length c0, .slice A1 l1.length c1] w fun e w' => e = .returned (.bool r) ∧ Drawn0 w w' := by
 have HR0 := Aside0.mk hr0
 have HC0 := Aside0.mk hc0
 clear hr0 hc0
 have HR1 := Aside0.mk hr1
 have HC1 := Aside0.mk hc1
 clear hr1 hc1
 have H : (if (l0.length : Int) = (l1.length : Int) then (laws_likeInts.l0 k l0 l1 0) else (some false)) = some r := h
 clear h
 by_cases c3 : (l0.length : Int) = (l1.length : Int)
 ·rw [if_pos c3] at H
  have c3b0 : ((l0.length : Int) == (l1.length : Int)) = true := beq_iff_eq.mpr c3
  have c3b1 : ((l0.length : Int) != (l1.length : Int)) = false := bne_eq_false_iff_eq.mpr c3
  have c3b2 : (l0.length == l1.length) = true := by first | simpa using c3 | (simp at c3 ⊢; omega)
  clear c3
  have H' := Aside0.mk H
  clear H
  go_enter Try.func50, Try.ntmps50
  go_wp2
  repeat (go_quiet (fail); try go_wp2)
  go_loopg [5] k (fun kq v5 w' => ∃ (x5_1 : Int), v5 = .int .i64 x5_1 ∧ Aside0 (laws_likeInts.l0 kq l0 l1 x5_1 = some r) ∧ Aside0 (kq ≤ k) ∧ Drawn0 w w')
  case atStart => exact ⟨(0), (by first | rfl | (simp; done) | (simp [*]; done)), H', ⟨Nat.le_refl _⟩, by repeat (first | exact Drawn0.refl _ | apply Drawn0.step)⟩
  case round =>
   clear H'
   try clear c1; try clear p2; try clear c3; try clear c3b0; try clear c3b1; try clear c3b2
   obtain ⟨x5_1, rfl, HA, HK1, ⟨m1, rfl⟩⟩ := hrel
   cases gk with
   | zero => exact absurd HA.out (by simp [laws_likeInts.l0])
   | succ k1 =>
    have H := HA.out
    clear HA
    simp only [laws_likeInts.l0] at H
    by_cases c4 : x5_1 < (l0.length : Int)
    ·rw [if_pos c4] at H
     have c4b0 : decide (x5_1 < (l0.length : Int)) = true := decide_eq_true c4
     clear c4
     by_cases c5 : 0 ≤ x5_1
     rotate_left
     ·rw [if_neg c5] at H; exact absurd H (by simp)
     rw [if_pos c5] at H
     have c5b0 : decide (0 ≤ x5_1) = true := decide_eq_true c5
     clear c5
     by_cases c6 : x5_1 < (l1.length : Int)
     rotate_left
     ·rw [if_neg c6] at H; exact absurd H (by simp)
     rw [if_pos c6] at H
     have c6b0 : decide (x5_1 < (l1.length : Int)) = true := decide_eq_true c6
     clear c6
     by_cases c7 : (rd l0 x5_1) = (rd l1 x5_1)
     ·rw [if_pos c7] at H
      have c7b0 : ((rd l0 x5_1) == (rd l1 x5_1)) = true := beq_iff_eq.mpr c7
      have c7b1 : ((rd l0 x5_1) != (rd l1 x5_1)) = false := bne_eq_false_iff_eq.mpr c7
      clear c7
      have H' := Aside0.mk H
      clear H
      have p376 : 0 ≤ (x5_1 : Int) := of_decide_eq_true (by first | (with_reducible assumption) | assumption)
      have q376 : x5_1 < (l0.length : Int) := of_decide_eq_true (by first | (with_reducible assumption) | assumption)
      obtain ⟨ad376, e376, hx376_0⟩ := Kd.at_int HR0.out x5_1 p376 q376
      cases e376
      replace p376 := eq_true p376
      replace q376 := eq_true q376
      have p377 : 0 ≤ (x5_1 : Int) := of_decide_eq_true (by first | (with_reducible assumption) | assumption)
      have q377 : x5_1 < (l1.length : Int) := of_decide_eq_true (by first | (with_reducible assumption) | assumption)
      obtain ⟨ad377, e377, hx377_0⟩ := Kd.at_int HR1.out x5_1 p377 q377
      cases e377
      replace p377 := eq_true p377
      replace q377 := eq_true q377
      go_wp2
      repeat (go_quiet (fail); try go_wp2)
      go_roundg k1
      case measure => have := HK1.out; omega
      case rel => exact ⟨(wrap64 (x5_1 + 1)), (by first | rfl | (simp; done) | (simp [*]; done)), H', ⟨by have := HK1.out; omega⟩, by repeat (first | exact Drawn0.refl _ | apply Drawn0.step)⟩
     ·rw [if_neg c7] at H
      have c7b0 : ((rd l0 x5_1) == (rd l1 x5_1)) = false := beq_eq_false_iff_ne.mpr c7
      have c7b1 : ((rd l0 x5_1) != (rd l1 x5_1)) = true := bne_iff_ne.mpr c7
      obtain rfl := Option.some.inj H
      have p376 : 0 ≤ (x5_1 : Int) := of_decide_eq_true (by first | (with_reducible assumption) | assumption)
      have q376 : x5_1 < (l0.length : Int) := of_decide_eq_true (by first | (with_reducible assumption) | assumption)
      obtain ⟨ad376, e376, hx376_0⟩ := Kd.at_int HR0.out x5_1 p376 q376
      cases e376
      replace p376 := eq_true p376
      replace q376 := eq_true q376
      have p377 : 0 ≤ (x5_1 : Int) := of_decide_eq_true (by first | (with_reducible assumption) | assumption)
      have q377 : x5_1 < (l1.length : Int) := of_decide_eq_true (by first | (with_reducible assumption) | assumption)
      obtain ⟨ad377, e377, hx377_0⟩ := Kd.at_int HR1.out x5_1 p377 q377
      cases e377
      replace p377 := eq_true p377
      replace q377 := eq_true q377
      go_wp2
      repeat (go_quiet (fail); try go_wp2)
      go_ret
      exact ⟨by first | rfl | (simp; done) | (simp [*]; done), by repeat (first | exact Drawn0.refl _ | apply Drawn0.step)⟩
    ·rw [if_neg c4] at H
     have c4b0 : decide (x5_1 < (l0.length : Int)) = false := decide_eq_false c4
     clear c4
     obtain rfl := Option.some.inj H
     go_wp2
     repeat (go_quiet (fail); try go_wp2)
     go_ret
     exact ⟨by first | rfl | (simp; done) | (simp [*]; done), by repeat (first | exact Drawn0.refl _ | apply Drawn0.step)⟩
 ·rw [if_neg c3] at H
  have c3b0 : ((l0.length : Int) == (l1.length : Int)) = false := beq_eq_false_iff_ne.mpr c3
  have c3b1 : ((l0.length : Int) != (l1.length : Int)) = true := bne_iff_ne.mpr c3
  have c3b2 : (l0.length == l1.length) = false := by first | simpa using c3 | (simp at c3 ⊢; omega)
  obtain rfl := Option.some.inj H
  go_enter Try.func50, Try.ntmps50
  go_wp2
  repeat (go_quiet (fail); try go_wp2)
  go_ret
  exact ⟨by first | rfl | (simp; done) | (simp [*]; done), by repeat (first | exact Drawn0.refl _ | apply Drawn0.step)⟩

/-! ### laws_ring9: function 41 -/
def laws_ring9.f (k : Nat) (a0_0 : Int) (l0_1 : List Int) (a1_0 : Int) (l1_1 : List Int) : Option (Bool) := if a0_0 = a1_0 then ((laws_likeInts.f k l0_1 l1_1).bind fun t380 => (some t380)) else (some false)
theorem laws_ring9.mono : ∀ a0 a1 a2 a3 k, LeO (laws_ring9.f k a0 a1 a2 a3) (laws_ring9.f (k + 1) a0 a1 a2 a3) := by
 intro a0 a1 a2 a3 k
 unfold laws_ring9.f
 repeat' first | (with_reducible first | exact laws_likeInts.mono _ _ _ | exact LeO.refl _ | exact LeO.none _ | refine LeO.ite ?_ ?_ | refine LeO.bind ?_ (fun _ => ?_)) | exact LeO.none _ | refine LeO.ite ?_ ?_ | refine LeO.bind ?_ (fun _ => ?_)
set_option maxHeartbeats 8000000 in
set_option maxRecDepth 100000 in
theorem laws_ring9.calls (k : Nat) (a0_0 : Int) (A0_1 : Option Addr) (c0_1 : Nat) (l0_1 : List Int) (a1_0 : Int) (A1_1 : Option Addr) (c1_1 : Nat) (l1_1 : List Int) (r : Bool) (w : World) (hr0_1 : Kd.C (Kd.int .i64) w A0_1 l0_1.length l0_1) (hc0_1 : l0_1.length ≤ c0_1) (hr1_1 : Kd.C (Kd.int .i64) w A1_1 l1_1.length l1_1) (hc1_1 : l1_1.length ≤ c1_1) (h : laws_ring9.f k a0_0 l0_1 a1_0 l1_1 = some r) :
  Calls Try.prog 41 #[.agg #[.int .i64 a0_0, .slice A0_1 l0_1.length c0_1], .agg #[.int .i64 a1_0, .slice A1_1 l1_1.length c1_1]] w fun e w' => e = .returned (.bool r) ∧ Below w.heap.size w w' := by
 have hu24 := Try.underlying24
 have HR0_1 := Aside0.mk hr0_1
 have HC0_1 := Aside0.mk hc0_1
 clear hr0_1 hc0_1
 have HR1_1 := Aside0.mk hr1_1
 have HC1_1 := Aside0.mk hc1_1
 clear hr1_1 hc1_1
 have HB := Aside0.mk (Below.refl w.heap.size w)
 have H : (if a0_0 = a1_0 then ((laws_likeInts.f k l0_1 l1_1).bind fun t380 => (some t380)) else (some false)) = some r := h
 clear h
 by_cases c3 : a0_0 = a1_0
 ·rw [if_pos c3] at H
  have c3b0 : (a0_0 == a1_0) = true := beq_iff_eq.mpr c3
  have c3b1 : (a0_0 != a1_0) = false := bne_eq_false_iff_eq.mpr c3
  clear c3
  replace H := Option.bind_eq_some_iff.mp H
  obtain ⟨t380, A40, H⟩ := H
  replace H : (some t380) = some r := H
  have A4 := Aside0.mk A40
  clear A40
  obtain rfl := Option.some.inj H
  go_enter Try.func41, Try.ntmps41
  go_wp2_with (first | ((with_reducible refine gate_dst (N := 2) rfl ?_); refine bx 2 #[.int .i64 a0_0, .slice A0_1 l0_1.length c0_1] 24 (fun gb378 hg w5 hbox hb => ?_); have BK378 := Aside0.mk hbox; have GW378 := ge HB hg; have GE378 := GW378; replace HB := hs HB hb; clear hb hbox hg) | ((with_reducible refine gate_dst (N := 3) rfl ?_); refine bx 3 #[.int .i64 a1_0, .slice A1_1 l1_1.length c1_1] 24 (fun gb379 hg w6 hbox hb => ?_); have BK379 := Aside0.mk hbox; have GW379 := ge HB hg; have GE379 := GW379; obtain ⟨NB378_379, NB379_378⟩ := nb BK378 hg; replace BK378 := bb BK378 hb; replace HB := hs HB hb; clear hb hbox hg; have hnb7 := NB378_379.out; have hnc7 := NB379_378.out; have hcz8_0 : w6.cell? ⟨gb378, 0, none⟩ = some (.int .i64 a0_0) := (blk_cell BK378.out 0).trans rfl; have hcz8_1 : w6.cell? ⟨gb378, 1, none⟩ = some (.slice A0_1 l0_1.length c0_1) := (blk_cell BK378.out 1).trans rfl; have hfz8_0 := blk_frozen BK378.out 0; have hfz8_1 := blk_frozen BK378.out 1; have hcz9_0 : w6.cell? ⟨gb379, 0, none⟩ = some (.int .i64 a1_0) := (blk_cell BK379.out 0).trans rfl; have hcz9_1 : w6.cell? ⟨gb379, 1, none⟩ = some (.slice A1_1 l1_1.length c1_1) := (blk_cell BK379.out 1).trans rfl; have hfz9_0 := blk_frozen BK379.out 0; have hfz9_1 := blk_frozen BK379.out 1) | (go_at_call 50; (with_reducible refine (laws_likeInts.calls k _ _ l0_1 _ _ l1_1 t380 _ ?side1 ?side2 ?side3 ?side4 A4.out).mono ?_); (case side1 => repeat (first | exact (Kd.C_below HR0_1.out HB.out) | (with_reducible refine Kd.C_alloc ?_ _) | (with_reducible refine Kd.C_drewN ?_ _) | (with_reducible refine Kd.C_drew ?_))); (case side2 => exact HC0_1.out); (case side3 => repeat (first | exact (Kd.C_below HR1_1.out HB.out) | (with_reducible refine Kd.C_alloc ?_ _) | (with_reducible refine Kd.C_drewN ?_ _) | (with_reducible refine Kd.C_drew ?_))); (case side4 => exact HC1_1.out); rintro e w' ⟨rfl, ⟨nd, rfl⟩⟩))
  go_ret
  exact ⟨by first | rfl | (simp [errW_none, errW_some] <;> rfl) | (simp [*, errW_none, errW_some] <;> rfl), bks HB.out⟩
 ·rw [if_neg c3] at H
  have c3b0 : (a0_0 == a1_0) = false := beq_eq_false_iff_ne.mpr c3
  have c3b1 : (a0_0 != a1_0) = true := bne_iff_ne.mpr c3
  obtain rfl := Option.some.inj H
  go_enter Try.func41, Try.ntmps41
  go_wp2_with (first | ((with_reducible refine gate_dst (N := 2) rfl ?_); refine bx 2 #[.int .i64 a0_0, .slice A0_1 l0_1.length c0_1] 24 (fun gb378 hg w10 hbox hb => ?_); have BK378 := Aside0.mk hbox; have GW378 := ge HB hg; have GE378 := GW378; replace HB := hs HB hb; clear hb hbox hg) | ((with_reducible refine gate_dst (N := 3) rfl ?_); refine bx 3 #[.int .i64 a1_0, .slice A1_1 l1_1.length c1_1] 24 (fun gb379 hg w11 hbox hb => ?_); have BK379 := Aside0.mk hbox; have GW379 := ge HB hg; have GE379 := GW379; obtain ⟨NB378_379, NB379_378⟩ := nb BK378 hg; replace BK378 := bb BK378 hb; replace HB := hs HB hb; clear hb hbox hg; have hnb12 := NB378_379.out; have hnc12 := NB379_378.out; have hcz13_0 : w11.cell? ⟨gb378, 0, none⟩ = some (.int .i64 a0_0) := (blk_cell BK378.out 0).trans rfl; have hcz13_1 : w11.cell? ⟨gb378, 1, none⟩ = some (.slice A0_1 l0_1.length c0_1) := (blk_cell BK378.out 1).trans rfl; have hfz13_0 := blk_frozen BK378.out 0; have hfz13_1 := blk_frozen BK378.out 1; have hcz14_0 : w11.cell? ⟨gb379, 0, none⟩ = some (.int .i64 a1_0) := (blk_cell BK379.out 0).trans rfl; have hcz14_1 : w11.cell? ⟨gb379, 1, none⟩ = some (.slice A1_1 l1_1.length c1_1) := (blk_cell BK379.out 1).trans rfl; have hfz14_0 := blk_frozen BK379.out 0; have hfz14_1 := blk_frozen BK379.out 1))
  go_ret
  exact ⟨by first | rfl | (simp [errW_none, errW_some] <;> rfl) | (simp [*, errW_none, errW_some] <;> rfl), bks HB.out⟩

/-! ### spec_IsRing: function 43 -/
def spec_IsRing.f (k : Nat) (a0_0 : Int) (l0_1 : List Int) : Option (Bool) := (spec_l10Is.f k a0_0 l0_1).bind fun t382 => (some t382)
theorem spec_IsRing.mono : ∀ a0 a1 k, LeO (spec_IsRing.f k a0 a1) (spec_IsRing.f (k + 1) a0 a1) := by
 intro a0 a1 k
 unfold spec_IsRing.f
 repeat' first | (with_reducible first | exact spec_l10Is.mono _ _ _ | exact LeO.refl _ | exact LeO.none _ | refine LeO.ite ?_ ?_ | refine LeO.bind ?_ (fun _ => ?_)) | exact LeO.none _ | refine LeO.ite ?_ ?_ | refine LeO.bind ?_ (fun _ => ?_)
set_option maxHeartbeats 8000000 in
set_option maxRecDepth 100000 in
theorem spec_IsRing.calls (k : Nat) (a0_0 : Int) (A0_1 : Option Addr) (c0_1 : Nat) (l0_1 : List Int) (r : Bool) (w : World) (hr0_1 : Kd.C (Kd.int .i64) w A0_1 l0_1.length l0_1) (hc0_1 : l0_1.length ≤ c0_1) (h : spec_IsRing.f k a0_0 l0_1 = some r) :
  Calls Try.prog 43 #[.agg #[.int .i64 a0_0, .slice A0_1 l0_1.length c0_1]] w fun e w' => e = .returned (.bool r) ∧ Below w.heap.size w w' := by
 have hu24 := Try.underlying24
 have HR0_1 := Aside0.mk hr0_1
 have HC0_1 := Aside0.mk hc0_1
 clear hr0_1 hc0_1
 have HB := Aside0.mk (Below.refl w.heap.size w)
 have H : ((spec_l10Is.f k a0_0 l0_1).bind fun t382 => (some t382)) = some r := h
 clear h
 replace H := Option.bind_eq_some_iff.mp H
 obtain ⟨t382, A20, H⟩ := H
 replace H : (some t382) = some r := H
 have A2 := Aside0.mk A20
 clear A20
 obtain rfl := Option.some.inj H
 go_enter Try.func43, Try.ntmps43
 go_wp2_with (first | ((with_reducible refine gate_dst (N := 1) rfl ?_); refine bx 1 #[.int .i64 a0_0, .slice A0_1 l0_1.length c0_1] 24 (fun gb381 hg w3 hbox hb => ?_); have BK381 := Aside0.mk hbox; have GW381 := ge HB hg; have GE381 := GW381; replace HB := hs HB hb; clear hb hbox hg; have hcz4_0 : w3.cell? ⟨gb381, 0, none⟩ = some (.int .i64 a0_0) := (blk_cell BK381.out 0).trans rfl; have hcz4_1 : w3.cell? ⟨gb381, 1, none⟩ = some (.slice A0_1 l0_1.length c0_1) := (blk_cell BK381.out 1).trans rfl; have hfz4_0 := blk_frozen BK381.out 0; have hfz4_1 := blk_frozen BK381.out 1) | ((with_reducible refine gate_callee (f := 68) rfl ?_); refine gl (some 4) Try.func68 #[.agg #[.int .i64 a0_0, .slice A0_1 l0_1.length c0_1]] ?_; (with_reducible refine (spec_l10Is.calls k a0_0 _ _ l0_1 t382 _ ?side1 ?side2 A2.out).mono ?_); (case side1 => repeat (first | exact (Kd.C_below HR0_1.out HB.out) | (with_reducible refine Kd.C_alloc ?_ _) | (with_reducible refine Kd.C_drewN ?_ _) | (with_reducible refine Kd.C_drew ?_))); (case side2 => exact HC0_1.out); rintro e w5 ⟨rfl, hb⟩; refine ⟨_, rfl, ?_⟩; replace BK381 := bb BK381 hb; replace HB := hs HB hb; (try clear hb)))
 go_ret
 exact ⟨by first | rfl | (simp [errW_none, errW_some] <;> rfl) | (simp [*, errW_none, errW_some] <;> rfl), bks HB.out⟩

/-! ### spec_l01Near: function 99 -/
def spec_l01Near.f (s0_0 : List Int) (s0_1 : Int) (s0_2 : Int) (a1 : Int) : Option (Int × Int × Int) := (spec_l01Next.f s0_0 s0_1 s0_2 14).bind fun bt383 => (if bt383.1 = 0 then ((spec_l01Pick.f s0_0 bt383.2.1 bt383.2.2 (([(-1), wrap64 (a1 + 1), 1099511627776, (-4611686018427387904)] : List Int))).bind fun bt389 => (some (bt389.1, bt389.2.1, bt389.2.2))) else ((spec_l01Next.f s0_0 bt383.2.1 bt383.2.2 (wrap64 (a1 + 1))).bind fun bt392 => (some (bt392.1, bt392.2.1, bt392.2.2))))
set_option maxHeartbeats 8000000 in
set_option maxRecDepth 100000 in
theorem spec_l01Near.calls (g : Nat) (s0_0 : List Int) (s0_1 : Int) (s0_2 : Int) (a1 : Int) (r1 : Int) (r2 : Int) (r3 : Int) (w0 w : World) (hI : IsS116 w0 w g s0_0 s0_1 s0_2) (hB : Below w0.heap.size w0 w) (h : spec_l01Near.f s0_0 s0_1 s0_2 a1 = some (r1, r2, r3)) :
  Calls Try.prog 99 #[.pointer (some ⟨g, 0, none⟩), .int .i64 a1] w fun e w' => e = .returned (.int .i64 r1) ∧ IsS116 w0 w' g s0_0 r2 r3 ∧ Below w0.heap.size w0 w' ∧ KeepBut w w' g none := by
 have HI0 := Aside0.mk hI
 have HK := Aside0.mk (KeepBut.refl w g none)
 have HL := Aside0.mk hB.size
 clear hI
 have HW0 := Aside0.mk hB.size
 have HB := Aside0.mk hB
 clear hB
 have H := h
 unfold spec_l01Near.f at H
 clear h
 replace H := Option.bind_eq_some_iff.mp H
 obtain ⟨⟨t383, t384, t385⟩, A30, H⟩ := H
 try dsimp only at H
 have A3 := Aside0.mk A30
 clear A30
 by_cases c4 : t383 = 0
 ·rw [if_pos c4] at H
  have c4b0 : (t383 == 0) = true := beq_iff_eq.mpr c4
  have c4b1 : (t383 != 0) = false := bne_eq_false_iff_eq.mpr c4
  clear c4
  obtain ⟨y386, hy386⟩ : ∃ y_ : List Int, y_ = (([(-1), wrap64 (a1 + 1), 1099511627776, (-4611686018427387904)] : List Int)) := ⟨_, rfl⟩
  replace H : ((spec_l01Pick.f s0_0 t384 t385 y386).bind fun bt389 => (some (bt389.1, bt389.2.1, bt389.2.2))) = some (r1, r2, r3) := by first | (rw [hy386]; with_reducible exact H) | (have H2_ := (Option.bind_some _ _).symm.trans H; rw [hy386]; with_reducible exact H2_) | (have H2_ := (Option.bind_some _ _).symm.trans H; with_reducible exact H2_) | with_reducible exact H | (rw [hy386]; exact H) | exact H
  have Ny386 := Aside0.mk hy386
  clear hy386
  replace H := Option.bind_eq_some_iff.mp H
  obtain ⟨⟨t389, t390, t391⟩, A50, H⟩ := H
  try dsimp only at H
  have A5 := Aside0.mk A50
  clear A50
  simp only [Option.some.injEq, Prod.mk.injEq] at H
  obtain ⟨rfl, rfl, rfl⟩ := H
  go_enter Try.func99, Try.ntmps99
  go_wp2_with (first | ((with_reducible refine gate_callee (f := 101) rfl ?_); refine gl (some 6) Try.func101 #[.pointer (some ⟨g, 0, none⟩), .int .i64 14] ?_; (with_reducible refine (spec_l01Next.calls g s0_0 s0_1 s0_2 14 t383 t384 t385 w0 _ ?side1 ?side2 A3.out).mono ?_); (case side1 => repeat (first | (with_reducible first | exact HI0.out | apply IsS116.alloc | apply IsS116.drewN | apply IsS116.drew | apply IsS116.set_1 | apply IsS116.set_2) | exact HI0.out)); (case side2 => repeat (first | (with_reducible first | exact HB.out | apply below_alloc | apply pw_below_drewN | apply below_drew1 | refine below_set ?_ (IsS116.ge HI0.out)) | exact HB.out)); rintro e w6 ⟨rfl, hi, hb, hk⟩; refine ⟨_, rfl, ?_⟩; replace HK := Aside0.mk (KeepBut.trans (by repeat (first | (with_reducible first | exact HK.out | apply KeepBut.set_ | apply keep_drewN | apply keep_drew | apply keep_alloc) | exact HK.out)) hk (.inl rfl)); replace HB := Aside0.mk hb; replace HI0 := Aside0.mk hi; (try clear hb hk hi)) | ((with_reducible refine gate_dst (N := 11) rfl ?_); refine Kd.R_lit (Kd.int .i64) _ 2 ?hg (N := 11) ?hd (xs := ([(-1), wrap64 (a1 + 1), 1099511627776, (-4611686018427387904)] : List Int)) (inner := [.int .i64 (-1), .int .i64 (wrap64 (a1 + 1)), .int .i64 1099511627776, .int .i64 (-4611686018427387904)]) (ok := fun _ => True) (okp := fun _ => True) ?hr ?hp (fun _ hk => hk) trivial (Below.refl _ _) (Nat.le_refl _) (by simp) ?_; (case hd => rfl); (case hg => rfl); (case hr => first | (go_simp; done) | (go_simp; rfl)); (case hp => exact (Reps.one (show Kd.M (Kd.int .i64) _ _ _ (-1) [.int .i64 (-1)] from rfl) (Reps.one (show Kd.M (Kd.int .i64) _ _ _ (wrap64 (a1 + 1)) [.int .i64 (wrap64 (a1 + 1))] from rfl) (Reps.one (show Kd.M (Kd.int .i64) _ _ _ 1099511627776 [.int .i64 1099511627776] from rfl) (Reps.one (show Kd.M (Kd.int .i64) _ _ _ (-4611686018427387904) [.int .i64 (-4611686018427387904)] from rfl) (Reps.none _ _)))))); intro v387 w7 ho8 hb hg_ hnew_; clear hg_ hnew_; (first | rw [← Ny386.out] at ho8 | (simp only [Int.reduceToNat] at ho8; rw [← Ny386.out] at ho8)); have HO388 := Aside0.mk (Kd.R_lower ho8 (keep_size (w := w) (g := g) (row := none) (by repeat (first | (with_reducible first | exact HK.out | apply KeepBut.set_ | apply keep_drewN | apply keep_drew | apply keep_alloc) | exact HK.out)))); replace HK := Aside0.mk (KeepBut.trans (by repeat (first | (with_reducible first | exact HK.out | apply KeepBut.set_ | apply keep_drewN | apply keep_drew | apply keep_alloc) | exact HK.out)) (KeepBut.of_below hb g none) (.inl rfl)); replace HB := Aside0.mk (below_step (by repeat (first | (with_reducible first | exact HB.out | apply below_alloc | apply pw_below_drewN | apply below_drew1 | refine below_set ?_ (IsS116.ge HI0.out)) | exact HB.out)) hb); replace HI0 := Aside0.mk (IsS116.below (by repeat (first | (with_reducible first | exact HI0.out | apply IsS116.alloc | apply IsS116.drewN | apply IsS116.drew | apply IsS116.set_1 | apply IsS116.set_2) | exact HI0.out)) hb); clear hb ho8; obtain ⟨Ao9, co9, eo9⟩ := Kd.R_slice HO388.out; subst eo9) | ((with_reducible refine gate_callee (f := 98) rfl ?_); refine gl (some 12) Try.func98 #[.pointer (some ⟨g, 0, none⟩), .slice Ao9 y386.length co9] ?_; (with_reducible refine (spec_l01Pick.calls g s0_0 t384 t385 _ _ y386 t389 t390 t391 w0 _ ?side1 ?side2 ?side3 ?side4 ?side5 A5.out).mono ?_); (case side1 => repeat (first | (with_reducible first | exact HI0.out | apply IsS116.alloc | apply IsS116.drewN | apply IsS116.drew | apply IsS116.set_1 | apply IsS116.set_2) | exact HI0.out)); (case side2 => repeat (first | (with_reducible first | exact HB.out | apply below_alloc | apply pw_below_drewN | apply below_drew1 | refine below_set ?_ (IsS116.ge HI0.out)) | exact HB.out)); (case side3 => repeat (first | exact (Kd.R_reads' HO388.out).2.2 | (with_reducible refine Kd.C_alloc ?_ _) | (with_reducible refine Kd.C_drewN ?_ _) | (with_reducible refine Kd.C_drew ?_))); (case side4 => exact (Kd.R_reads' HO388.out).2.1); (case side5 => exact far_slice (IsS116.own_ne HI0.out HO388.out (by decide))); rintro e w10 ⟨rfl, hi, hb, hk⟩; refine ⟨_, rfl, ?_⟩; replace HO388 := Aside0.mk (Kd.R_mono (Kd.R_keep (IsS116.apart (show IsS116 w0 _ g s0_0 t384 t385 from by repeat (first | (with_reducible first | exact HI0.out | apply IsS116.alloc | apply IsS116.drewN | apply IsS116.drew | apply IsS116.set_1 | apply IsS116.set_2) | exact HI0.out)) (rk HO388.out) (by decide)) hk (fun _ h => h.2)) (fun _ h => h.1)); replace HK := Aside0.mk (KeepBut.trans (by repeat (first | (with_reducible first | exact HK.out | apply KeepBut.set_ | apply keep_drewN | apply keep_drew | apply keep_alloc) | exact HK.out)) hk (.inl rfl)); replace HB := Aside0.mk hb; replace HI0 := Aside0.mk hi; (try clear hb hk hi)))
  go_ret
  exact ⟨by first | rfl | (simp [errW_none, errW_some] <;> rfl) | (simp [*, errW_none, errW_some] <;> rfl), by repeat (first | (with_reducible first | exact HI0.out | apply IsS116.alloc | apply IsS116.drewN | apply IsS116.drew | apply IsS116.set_1 | apply IsS116.set_2) | exact HI0.out), by repeat (first | (with_reducible first | exact HB.out | apply below_alloc | apply pw_below_drewN | apply below_drew1 | refine below_set ?_ (IsS116.ge HI0.out)) | exact HB.out), by repeat (first | (with_reducible first | exact HK.out | apply KeepBut.set_ | apply keep_drewN | apply keep_drew | apply keep_alloc) | exact HK.out)⟩
 ·rw [if_neg c4] at H
  have c4b0 : (t383 == 0) = false := beq_eq_false_iff_ne.mpr c4
  have c4b1 : (t383 != 0) = true := bne_iff_ne.mpr c4
  replace H := Option.bind_eq_some_iff.mp H
  obtain ⟨⟨t392, t393, t394⟩, A110, H⟩ := H
  try dsimp only at H
  have A11 := Aside0.mk A110
  clear A110
  simp only [Option.some.injEq, Prod.mk.injEq] at H
  obtain ⟨rfl, rfl, rfl⟩ := H
  go_enter Try.func99, Try.ntmps99
  go_wp2_with (first | ((with_reducible refine gate_callee (f := 101) rfl ?_); refine gl (some 6) Try.func101 #[.pointer (some ⟨g, 0, none⟩), .int .i64 14] ?_; (with_reducible refine (spec_l01Next.calls g s0_0 s0_1 s0_2 14 t383 t384 t385 w0 _ ?side1 ?side2 A3.out).mono ?_); (case side1 => repeat (first | (with_reducible first | exact HI0.out | apply IsS116.alloc | apply IsS116.drewN | apply IsS116.drew | apply IsS116.set_1 | apply IsS116.set_2) | exact HI0.out)); (case side2 => repeat (first | (with_reducible first | exact HB.out | apply below_alloc | apply pw_below_drewN | apply below_drew1 | refine below_set ?_ (IsS116.ge HI0.out)) | exact HB.out)); rintro e w12 ⟨rfl, hi, hb, hk⟩; refine ⟨_, rfl, ?_⟩; replace HK := Aside0.mk (KeepBut.trans (by repeat (first | (with_reducible first | exact HK.out | apply KeepBut.set_ | apply keep_drewN | apply keep_drew | apply keep_alloc) | exact HK.out)) hk (.inl rfl)); replace HB := Aside0.mk hb; replace HI0 := Aside0.mk hi; (try clear hb hk hi)) | ((with_reducible refine gate_callee (f := 101) rfl ?_); refine gl (some 16) Try.func101 #[.pointer (some ⟨g, 0, none⟩), .int .i64 (wrap64 (a1 + 1))] ?_; (with_reducible refine (spec_l01Next.calls g s0_0 t384 t385 (wrap64 (a1 + 1)) t392 t393 t394 w0 _ ?side1 ?side2 A11.out).mono ?_); (case side1 => repeat (first | (with_reducible first | exact HI0.out | apply IsS116.alloc | apply IsS116.drewN | apply IsS116.drew | apply IsS116.set_1 | apply IsS116.set_2) | exact HI0.out)); (case side2 => repeat (first | (with_reducible first | exact HB.out | apply below_alloc | apply pw_below_drewN | apply below_drew1 | refine below_set ?_ (IsS116.ge HI0.out)) | exact HB.out)); rintro e w13 ⟨rfl, hi, hb, hk⟩; refine ⟨_, rfl, ?_⟩; replace HK := Aside0.mk (KeepBut.trans (by repeat (first | (with_reducible first | exact HK.out | apply KeepBut.set_ | apply keep_drewN | apply keep_drew | apply keep_alloc) | exact HK.out)) hk (.inl rfl)); replace HB := Aside0.mk hb; replace HI0 := Aside0.mk hi; (try clear hb hk hi)))
  go_ret
  exact ⟨by first | rfl | (simp [errW_none, errW_some] <;> rfl) | (simp [*, errW_none, errW_some] <;> rfl), by repeat (first | (with_reducible first | exact HI0.out | apply IsS116.alloc | apply IsS116.drewN | apply IsS116.drew | apply IsS116.set_1 | apply IsS116.set_2) | exact HI0.out), by repeat (first | (with_reducible first | exact HB.out | apply below_alloc | apply pw_below_drewN | apply below_drew1 | refine below_set ?_ (IsS116.ge HI0.out)) | exact HB.out), by repeat (first | (with_reducible first | exact HK.out | apply KeepBut.set_ | apply keep_drewN | apply keep_drew | apply keep_alloc) | exact HK.out)⟩

/-! ### spec_DrawAddRings: function 44 -/
def spec_DrawAddRings.f (k : Nat) (l0 : List Int) : Option (Int × List Int × Int × List Int × Int) := (spec_l01From.f k l0).bind fun bt397 => ((spec_l10Two.f k bt397.1 bt397.2.1 bt397.2.2).bind fun bt401 => ((spec_l01Near.f bt397.1 bt401.2.2.2.2.1 bt401.2.2.2.2.2 1000).bind fun bt413 => ((spec_l01Pick.f bt397.1 bt413.2.1 bt413.2.2 (([1, (-1), 0, 2, bt413.1] : List Int))).bind fun bt419 => (some (bt401.1, bt401.2.1, bt401.2.2.1, bt401.2.2.2.1, bt419.1)))))
theorem spec_DrawAddRings.mono : ∀ a0 k, LeO (spec_DrawAddRings.f k a0) (spec_DrawAddRings.f (k + 1) a0) := by
 intro a0 k
 unfold spec_DrawAddRings.f
 repeat' first | (with_reducible first | exact spec_l01From.mono _ _ | exact spec_l10Two.mono _ _ _ _ | exact LeO.refl _ | exact LeO.none _ | refine LeO.ite ?_ ?_ | refine LeO.bind ?_ (fun _ => ?_)) | exact LeO.none _ | refine LeO.ite ?_ ?_ | refine LeO.bind ?_ (fun _ => ?_)
def spec_DrawAddRings.T3 : Bool × List (List Nat × List Nat) := (true, [([], []), ([], []), ([], []), ([], []), ([3], [3]), ([4], [4]), ([2, 5, 4], [2, 5]), ([0, 6, 0], [0]), ([1, 7, 0, 1, 7], [1]), ([6, 8, 0, 1, 2, 3, 4, 5, 6, 7, 8], [6])])
def spec_DrawAddRings.B3 : List Nat := [0, 0, 0, 0, 8, 24, 60, 125, 255, 511]
theorem spec_DrawAddRings.tab3 : rtab .any (opsOf Try.f44 3) = spec_DrawAddRings.T3 := by kernel_rfl
theorem spec_DrawAddRings.bits3 : waitsOk spec_DrawAddRings.T3.2 spec_DrawAddRings.B3 = true := by kernel_rfl
set_option maxHeartbeats 8000000 in
set_option maxRecDepth 100000 in
theorem spec_DrawAddRings.calls (k : Nat) (A0 : Option Addr) (c0 : Nat) (l0 : List Int) (r1 : Int) (r2 : List Int) (r3 : Int) (r4 : List Int) (r5 : Int) (w : World) (hr0 : Kd.C (Kd.int .u8) w A0 l0.length l0) (hc0 : l0.length ≤ c0) (h : spec_DrawAddRings.f k l0 = some (r1, r2, r3, r4, r5)) :
  Calls Try.prog 44 #[.slice A0 l0.length c0] w fun e w' => ∃ v1_ v3_ : Value, e = .returned (.tuple #[.agg #[.int .i64 r1, v1_], .agg #[.int .i64 r3, v3_], .int .i64 r5]) ∧ Kd.R (Kd.int .i64) 2 w' w.heap.size (fun k_ => some k_ ≠ (v3_ : Value).ownBlock) v1_ r2 ∧ Kd.R (Kd.int .i64) 2 w' w.heap.size (fun k_ => some k_ ≠ (v1_ : Value).ownBlock) v3_ r4 ∧ Below w.heap.size w w' := by
 have hu24 := Try.underlying24
 have HR0 := Aside0.mk hr0
 have HC0 := Aside0.mk hc0
 clear hr0 hc0
 have HB := Aside0.mk (Below.refl w.heap.size w)
 have H := h
 unfold spec_DrawAddRings.f at H
 clear h
 replace H := Option.bind_eq_some_iff.mp H
 obtain ⟨⟨t397, t398, t399⟩, A20, H⟩ := H
 try dsimp only at H
 have A2 := Aside0.mk A20
 clear A20
 replace H := Option.bind_eq_some_iff.mp H
 obtain ⟨⟨t401, t402, t405, t406, t409, t410⟩, A30, H⟩ := H
 try dsimp only at H
 have A3 := Aside0.mk A30
 clear A30
 replace H := Option.bind_eq_some_iff.mp H
 obtain ⟨⟨t413, t414, t415⟩, A40, H⟩ := H
 try dsimp only at H
 have A4 := Aside0.mk A40
 clear A40
 obtain ⟨y416, hy416⟩ : ∃ y_ : List Int, y_ = (([1, (-1), 0, 2, t413] : List Int)) := ⟨_, rfl⟩
 replace H : ((spec_l01Pick.f t397 t414 t415 y416).bind fun bt419 => (some (t401, t402, t405, t406, bt419.1))) = some (r1, r2, r3, r4, r5) := by first | (rw [hy416]; with_reducible exact H) | (have H2_ := (Option.bind_some _ _).symm.trans H; rw [hy416]; with_reducible exact H2_) | (have H2_ := (Option.bind_some _ _).symm.trans H; with_reducible exact H2_) | with_reducible exact H | (rw [hy416]; exact H) | exact H
 have Ny416 := Aside0.mk hy416
 clear hy416
 replace H := Option.bind_eq_some_iff.mp H
 obtain ⟨⟨t419, t420, t421⟩, A50, H⟩ := H
 try dsimp only at H
 have A5 := Aside0.mk A50
 clear A50
 simp only [Option.some.injEq, Prod.mk.injEq] at H
 obtain ⟨rfl, rfl, rfl, rfl, rfl⟩ := H
 go_enter Try.func44, Try.ntmps44
 try go_wp2_with (first | ((with_reducible refine gate_dst (N := 2) rfl ?_); refine bx 2 #[.int .i64 0, .slice none 0 0] 24 (fun gb395 hg w6 hbox hb => ?_); have BK395 := Aside0.mk hbox; have GW395 := ge HB hg; have GE395 := GW395; replace HB := hs HB hb; clear hb hbox hg) | ((with_reducible refine gate_dst (N := 3) rfl ?_); refine bx 3 #[.int .i64 0, .slice none 0 0] 24 (fun gb396 hg w7 hbox hb => ?_); have BK396 := Aside0.mk hbox; have GW396 := ge HB hg; have GE396 := GW396; obtain ⟨NB395_396, NB396_395⟩ := nb BK395 hg; replace BK395 := bb BK395 hb; replace HB := hs HB hb; clear hb hbox hg) | ((with_reducible refine gate_callee (f := 96) rfl ?_); refine gl (some 9) Try.func96 #[.slice A0 l0.length c0] ?_; (with_reducible refine (spec_l01From.calls k _ _ l0 t397 t398 t399 w _ ?side1 ?side2 ?side3 A2.out).mono ?_); (case side1 => repeat (first | (with_reducible first | exact HB.out | apply below_alloc | apply pw_below_drewN | apply below_drew1 | refine below_set ?_ GE395.out | refine below_set ?_ GE396.out) | exact HB.out)); (case side2 => exact HR0.out); (case side3 => exact HC0.out); rintro e w8 ⟨g400, rfl, hi, hb, hb2⟩; refine ⟨_, rfl, ?_⟩; have HI400 := Aside0.mk hi; have NB400_395 := Aside0.mk (IsS116.ne_blk hi (blk_below (g := gb395) (o := .cells #[.int .i64 0, .slice none 0 0] 24 (0, 0)) (pk BK395.out) hb2) (by decide)); have NB395_400 := Aside0.mk (Ne.symm (IsS116.ne_blk hi (blk_below (g := gb395) (o := .cells #[.int .i64 0, .slice none 0 0] 24 (0, 0)) (pk BK395.out) hb2) (by decide))); have NB400_396 := Aside0.mk (IsS116.ne_blk hi (blk_below (g := gb396) (o := .cells #[.int .i64 0, .slice none 0 0] 24 (0, 0)) (pk BK396.out) hb2) (by decide)); have NB396_400 := Aside0.mk (Ne.symm (IsS116.ne_blk hi (blk_below (g := gb396) (o := .cells #[.int .i64 0, .slice none 0 0] 24 (0, 0)) (pk BK396.out) hb2) (by decide))); replace BK395 := bb BK395 hb2; replace BK396 := bb BK396 hb2; replace HB := Aside0.mk hb; (try clear hb hb2 hi)) | ((with_reducible refine gate_callee (f := 95) rfl ?_); refine gl (some 12) Try.func95 #[.pointer (some ⟨g400, 0, none⟩)] ?_; (with_reducible refine (spec_l10Two.calls k g400 t397 t398 t399 t401 t402 t405 t406 t409 t410 w _ ?side1 ?side2 A3.out).mono ?_); (case side1 => repeat (first | (with_reducible first | exact HI400.out | apply IsS116.alloc | apply IsS116.drewN | apply IsS116.drew | apply IsS116.set_1 | apply IsS116.set_2 | refine IsS116.far ?_ NB400_395.out _ | refine IsS116.far ?_ NB400_396.out _) | exact HI400.out)); (case side2 => repeat (first | (with_reducible first | exact HB.out | apply below_alloc | apply pw_below_drewN | apply below_drew1 | refine below_set ?_ (IsS116.ge HI400.out) | refine below_set ?_ GE395.out | refine below_set ?_ GE396.out) | exact HB.out)); rintro e w9 ⟨v403, v407, rfl, ho0, ho1, hi, hb, hk⟩; refine ⟨_, rfl, ?_⟩; have HO404 := Aside0.mk (Kd.R_lower ho0 (below_size (by repeat (first | (with_reducible first | exact HB.out | apply below_alloc | apply pw_below_drewN | apply below_drew1 | refine below_set ?_ (IsS116.ge HI400.out) | refine below_set ?_ GE395.out | refine below_set ?_ GE396.out) | exact HB.out)))); have HO408 := Aside0.mk (Kd.R_lower ho1 (below_size (by repeat (first | (with_reducible first | exact HB.out | apply below_alloc | apply pw_below_drewN | apply below_drew1 | refine below_set ?_ (IsS116.ge HI400.out) | refine below_set ?_ GE395.out | refine below_set ?_ GE396.out) | exact HB.out)))); replace BK395 := Aside0.mk (KeepBut.blk hk (g' := gb395) (o := .cells #[.int .i64 0, .slice none 0 0] 24 (0, 0)) (pk BK395.out) NB395_400.out (by simp)); replace BK396 := Aside0.mk (KeepBut.blk hk (g' := gb396) (o := .cells #[.int .i64 0, .slice none 0 0] 24 (0, 0)) (pk BK396.out) NB396_400.out (by simp)); replace HB := Aside0.mk hb; replace HI400 := Aside0.mk hi; (try clear hb hk hi ho0 ho1)) | ((with_reducible refine gate_dst (N := 6) rfl ?_); refine bx 6 #[.int .i64 0, .slice none 0 0] 24 (fun gb411 hg w10 hbox hb => ?_); have BK411 := Aside0.mk hbox; have GW411 := Aside0.mk (by rw [hg]; exact (below_size (by repeat (first | (with_reducible first | exact HB.out | apply below_alloc | apply pw_below_drewN | apply below_drew1 | refine below_set ?_ (IsS116.ge HI400.out) | refine below_set ?_ GE395.out | refine below_set ?_ GE396.out) | exact HB.out))) : w.heap.size ≤ gb411); have GE411 := GW411; obtain ⟨NB395_411, NB411_395⟩ := nb BK395 hg; obtain ⟨NB396_411, NB411_396⟩ := nb BK396 hg; have NB400_411 := Aside0.mk (by rw [hg]; exact Nat.ne_of_lt (IsS116.lt (show IsS116 w _ g400 t397 t409 t410 from by repeat (first | (with_reducible first | exact HI400.out | apply IsS116.alloc | apply IsS116.drewN | apply IsS116.drew | apply IsS116.set_1 | apply IsS116.set_2 | refine IsS116.far ?_ NB400_395.out _ | refine IsS116.far ?_ NB400_396.out _) | exact HI400.out))) : g400 ≠ gb411); have NB411_400 := Aside0.mk (by rw [hg]; exact Nat.ne_of_gt (IsS116.lt (show IsS116 w _ g400 t397 t409 t410 from by repeat (first | (with_reducible first | exact HI400.out | apply IsS116.alloc | apply IsS116.drewN | apply IsS116.drew | apply IsS116.set_1 | apply IsS116.set_2 | refine IsS116.far ?_ NB400_395.out _ | refine IsS116.far ?_ NB400_396.out _) | exact HI400.out))) : gb411 ≠ g400); replace HO404 := rb HO404 hb; replace HO408 := rb HO408 hb; replace BK395 := bb BK395 hb; replace BK396 := bb BK396 hb; replace HB := Aside0.mk (below_step (by repeat (first | (with_reducible first | exact HB.out | apply below_alloc | apply pw_below_drewN | apply below_drew1 | refine below_set ?_ (IsS116.ge HI400.out) | refine below_set ?_ GE395.out | refine below_set ?_ GE396.out) | exact HB.out)) hb); replace HI400 := Aside0.mk (IsS116.below (by repeat (first | (with_reducible first | exact HI400.out | apply IsS116.alloc | apply IsS116.drewN | apply IsS116.drew | apply IsS116.set_1 | apply IsS116.set_2 | refine IsS116.far ?_ NB400_395.out _ | refine IsS116.far ?_ NB400_396.out _) | exact HI400.out)) hb); clear hb hbox hg) | ((with_reducible refine gate_dst (N := 7) rfl ?_); refine bx 7 #[.int .i64 0, .slice none 0 0] 24 (fun gb412 hg w11 hbox hb => ?_); have BK412 := Aside0.mk hbox; have GW412 := Aside0.mk (by rw [hg]; exact (below_size (by repeat (first | (with_reducible first | exact HB.out | apply below_alloc | apply pw_below_drewN | apply below_drew1 | refine below_set ?_ (IsS116.ge HI400.out) | refine below_set ?_ GE395.out | refine below_set ?_ GE396.out | refine below_set ?_ GE411.out) | exact HB.out))) : w.heap.size ≤ gb412); have GE412 := GW412; obtain ⟨NB395_412, NB412_395⟩ := nb BK395 hg; obtain ⟨NB396_412, NB412_396⟩ := nb BK396 hg; obtain ⟨NB411_412, NB412_411⟩ := nb BK411 hg; have NB400_412 := Aside0.mk (by rw [hg]; exact Nat.ne_of_lt (IsS116.lt (show IsS116 w _ g400 t397 t409 t410 from by repeat (first | (with_reducible first | exact HI400.out | apply IsS116.alloc | apply IsS116.drewN | apply IsS116.drew | apply IsS116.set_1 | apply IsS116.set_2 | refine IsS116.far ?_ NB400_395.out _ | refine IsS116.far ?_ NB400_396.out _ | refine IsS116.far ?_ NB400_411.out _) | exact HI400.out))) : g400 ≠ gb412); have NB412_400 := Aside0.mk (by rw [hg]; exact Nat.ne_of_gt (IsS116.lt (show IsS116 w _ g400 t397 t409 t410 from by repeat (first | (with_reducible first | exact HI400.out | apply IsS116.alloc | apply IsS116.drewN | apply IsS116.drew | apply IsS116.set_1 | apply IsS116.set_2 | refine IsS116.far ?_ NB400_395.out _ | refine IsS116.far ?_ NB400_396.out _ | refine IsS116.far ?_ NB400_411.out _) | exact HI400.out))) : gb412 ≠ g400); replace HO404 := rb HO404 hb; replace HO408 := rb HO408 hb; replace BK395 := bb BK395 hb; replace BK396 := bb BK396 hb; replace BK411 := bb BK411 hb; replace HB := Aside0.mk (below_step (by repeat (first | (with_reducible first | exact HB.out | apply below_alloc | apply pw_below_drewN | apply below_drew1 | refine below_set ?_ (IsS116.ge HI400.out) | refine below_set ?_ GE395.out | refine below_set ?_ GE396.out | refine below_set ?_ GE411.out) | exact HB.out)) hb); replace HI400 := Aside0.mk (IsS116.below (by repeat (first | (with_reducible first | exact HI400.out | apply IsS116.alloc | apply IsS116.drewN | apply IsS116.drew | apply IsS116.set_1 | apply IsS116.set_2 | refine IsS116.far ?_ NB400_395.out _ | refine IsS116.far ?_ NB400_396.out _ | refine IsS116.far ?_ NB400_411.out _) | exact HI400.out)) hb); clear hb hbox hg; have hnb12 := NB411_395.out; have hnc12 := NB395_411.out; have hnb13 := NB411_396.out; have hnc13 := NB396_411.out; have hnb14 := NB411_412.out; have hnc14 := NB412_411.out; have hnb15 := NB411_400.out; have hnc15 := NB400_411.out; have hcz16_0 : w11.cell? ⟨gb411, 0, none⟩ = some (.int .i64 0) := (blk_cell BK411.out 0).trans rfl; have hcz16_1 : w11.cell? ⟨gb411, 1, none⟩ = some (.slice none 0 0) := (blk_cell BK411.out 1).trans rfl; have hfz16_0 := blk_frozen BK411.out 0; have hfz16_1 := blk_frozen BK411.out 1; obtain ⟨Ao17, co17, eo17⟩ := Kd.R_slice HO404.out; subst eo17; have hnb18 := NB412_395.out; have hnc18 := NB395_412.out; have hnb19 := NB412_396.out; have hnc19 := NB396_412.out; have hnb20 := NB412_400.out; have hnc20 := NB400_412.out; have hcz21_0 : w11.cell? ⟨gb412, 0, none⟩ = some (.int .i64 0) := (blk_cell BK412.out 0).trans rfl; have hcz21_1 : w11.cell? ⟨gb412, 1, none⟩ = some (.slice none 0 0) := (blk_cell BK412.out 1).trans rfl; have hfz21_0 := blk_frozen BK412.out 0; have hfz21_1 := blk_frozen BK412.out 1; obtain ⟨Ao22, co22, eo22⟩ := Kd.R_slice HO408.out; subst eo22))
 obtain ⟨w23, hq⟩ : ∃ w_, w_ = ((((w11.setCell ⟨gb411, 0, none⟩ (.int .i64 t401)).setCell ⟨gb411, 1, none⟩ (.slice Ao17 t402.length co17)).setCell ⟨gb412, 0, none⟩ (.int .i64 t405)).setCell ⟨gb412, 1, none⟩ (.slice Ao22 t406.length co22)) := ⟨_, rfl⟩
 rw [← hq]
 have n7_ : Aside0 (Below w.heap.size w w23) := ⟨by rw [hq]; exact (by repeat (first | (with_reducible first | exact HB.out | apply below_alloc | apply pw_below_drewN | apply below_drew1 | refine below_set ?_ (IsS116.ge HI400.out) | refine below_set ?_ GE395.out | refine below_set ?_ GE396.out | refine below_set ?_ GE411.out | refine below_set ?_ GE412.out) | exact HB.out))⟩
 have n6_ : Aside0 (IsS116 w w23 g400 t397 t409 t410) := ⟨by rw [hq]; exact (by repeat (first | (with_reducible first | exact HI400.out | apply IsS116.alloc | apply IsS116.drewN | apply IsS116.drew | apply IsS116.set_1 | apply IsS116.set_2 | refine IsS116.far ?_ NB400_395.out _ | refine IsS116.far ?_ NB400_396.out _ | refine IsS116.far ?_ NB400_411.out _ | refine IsS116.far ?_ NB400_412.out _) | exact HI400.out))⟩
 have n5_ : Aside0 (w23.heap[gb412]? = some (.cells #[.int .i64 t405, .slice Ao22 t406.length co22] 24 (0, 0))) := ⟨by rw [hq]; exact (by (with_reducible repeat (first | refine blk_drewN ?_ _ | refine blk_drew ?_ | refine blk_alloc ?_ _)); refine blk_put (cs := #[.int .i64 t405, .slice none 0 0]) ?_ 1 _ rfl; (with_reducible repeat (first | refine blk_drewN ?_ _ | refine blk_drew ?_ | refine blk_alloc ?_ _)); refine blk_put (cs := #[.int .i64 0, .slice none 0 0]) ?_ 0 _ rfl; (with_reducible repeat (first | refine blk_drewN ?_ _ | refine blk_drew ?_ | refine blk_alloc ?_ _)); refine blk_far ?_ NB412_411.out _; (with_reducible repeat (first | refine blk_drewN ?_ _ | refine blk_drew ?_ | refine blk_alloc ?_ _)); refine blk_far ?_ NB412_411.out _; (with_reducible repeat (first | refine blk_drewN ?_ _ | refine blk_drew ?_ | refine blk_alloc ?_ _)); exact BK412.out)⟩
 have n4_ : Aside0 (w23.heap[gb411]? = some (.cells #[.int .i64 t401, .slice Ao17 t402.length co17] 24 (0, 0))) := ⟨by rw [hq]; exact (by (with_reducible repeat (first | refine blk_drewN ?_ _ | refine blk_drew ?_ | refine blk_alloc ?_ _)); refine blk_far ?_ NB411_412.out _; (with_reducible repeat (first | refine blk_drewN ?_ _ | refine blk_drew ?_ | refine blk_alloc ?_ _)); refine blk_far ?_ NB411_412.out _; (with_reducible repeat (first | refine blk_drewN ?_ _ | refine blk_drew ?_ | refine blk_alloc ?_ _)); refine blk_put (cs := #[.int .i64 t401, .slice none 0 0]) ?_ 1 _ rfl; (with_reducible repeat (first | refine blk_drewN ?_ _ | refine blk_drew ?_ | refine blk_alloc ?_ _)); refine blk_put (cs := #[.int .i64 0, .slice none 0 0]) ?_ 0 _ rfl; (with_reducible repeat (first | refine blk_drewN ?_ _ | refine blk_drew ?_ | refine blk_alloc ?_ _)); exact BK411.out)⟩
 have n1_ : Aside0 (Kd.R (Kd.int .i64) 2 w23 w.heap.size (fun k_ => some k_ ≠ (.slice Ao17 t402.length co17 : Value).ownBlock) (.slice Ao22 t406.length co22) t406) := ⟨by rw [hq]; exact (by (with_reducible repeat (first | apply Kd.R_alloc | apply Kd.R_drewN | apply Kd.R_drew)); exact Kd.R_mono (Kd.R_far (p := ⟨gb412, 1, none⟩) (Kd.R_far (p := ⟨gb412, 0, none⟩) (Kd.R_far (p := ⟨gb411, 1, none⟩) (Kd.R_far (p := ⟨gb411, 0, none⟩) (Kd.R_types (Kd.R_types HO408.out BK411.out (by decide)) BK412.out (by decide)) (fun _ hk => hk.1.2) (.int .i64 t401)) (fun _ hk => hk.1.2) (.slice Ao17 t402.length co17)) (fun _ hk => hk.2) (.int .i64 t405)) (fun _ hk => hk.2) (.slice Ao22 t406.length co22)) (fun _ hk => hk.1.1))⟩
 have n0_ : Aside0 (Kd.R (Kd.int .i64) 2 w23 w.heap.size (fun k_ => some k_ ≠ (.slice Ao22 t406.length co22 : Value).ownBlock) (.slice Ao17 t402.length co17) t402) := ⟨by rw [hq]; exact (by (with_reducible repeat (first | apply Kd.R_alloc | apply Kd.R_drewN | apply Kd.R_drew)); exact Kd.R_mono (Kd.R_far (p := ⟨gb412, 1, none⟩) (Kd.R_far (p := ⟨gb412, 0, none⟩) (Kd.R_far (p := ⟨gb411, 1, none⟩) (Kd.R_far (p := ⟨gb411, 0, none⟩) (Kd.R_types (Kd.R_types HO404.out BK411.out (by decide)) BK412.out (by decide)) (fun _ hk => hk.1.2) (.int .i64 t401)) (fun _ hk => hk.1.2) (.slice Ao17 t402.length co17)) (fun _ hk => hk.2) (.int .i64 t405)) (fun _ hk => hk.2) (.slice Ao22 t406.length co22)) (fun _ hk => hk.1.1))⟩
 replace BK395 := bq BK395 hq
 replace BK396 := bq BK396 hq
 clear HO404
 have HO404 := n0_
 clear n0_
 clear HO408
 have HO408 := n1_
 clear n1_
 clear BK411
 have BK411 := n4_
 clear n4_
 clear BK412
 have BK412 := n5_
 clear n5_
 clear HI400
 have HI400 := n6_
 clear n6_
 clear HB
 have HB := n7_
 clear n7_
 clear hq
 replace HO404 := rd0 HO404
 replace HO408 := rd0 HO408
 replace BK395 := bd BK395
 replace BK396 := bd BK396
 replace BK411 := bd BK411
 replace BK412 := bd BK412
 replace HI400 := Aside0.mk (IsS116.drew HI400.out)
 replace HB := hd0 HB
 refine start_ (n := 10) (S := fun w' => w'.cell? ⟨gb411, 0, none⟩ = some (.int .i64 t401) ∧ w'.cell? ⟨gb411, 1, none⟩ = some (.slice Ao17 t402.length co17) ∧ w'.cell? ⟨gb412, 0, none⟩ = some (.int .i64 t405) ∧ w'.cell? ⟨gb412, 1, none⟩ = some (.slice Ao22 t406.length co22)) (ds := []) #[false, false, false, false, false, false, false, false, false, false] (by kernel_rfl) rfl rfl ⟨(blk_cell BK411.out 0).trans rfl, (blk_cell BK411.out 1).trans rfl, (blk_cell BK412.out 0).trans rfl, (blk_cell BK412.out 1).trans rfl⟩ (fun hHeld => ?_); refine with_tabW spec_DrawAddRings.tab3 spec_DrawAddRings.bits3 (fun HT_ HW_ => ?_)
 generalize w23.drew = w24 at HO404 HO408 BK395 BK396 BK411 BK412 HI400 HB hHeld ⊢
 refine pu 2 (some 17) HT_ ?_
 refine pu 3 (some 18) HT_ ?_
 refine tk 0 (some 15) HT_ HW_ hHeld ?_ (hy := by rintro w' ⟨s0, s1, s2, s3⟩; go_simp; with_reducible rfl)
 refine tk 1 (some 16) HT_ HW_ hHeld ?_ (hy := by rintro w' ⟨s0, s1, s2, s3⟩; go_simp; with_reducible rfl)
 refine on 4 (some 19) HT_ (fun K hK => ?_)
 refine gs Try.func99 #[.pointer (some ⟨g400, 0, none⟩), .int .i64 1000] ?_
 with_reducible refine (spec_l01Near.calls g400 t397 t409 t410 1000 t413 t414 t415 w _ ?side1 ?side2 A4.out).mono ?_
 (case side1 => repeat (first | (with_reducible first | exact HI400.out | apply IsS116.alloc | apply IsS116.drewN | apply IsS116.drew | apply IsS116.set_1 | apply IsS116.set_2 | refine IsS116.far ?_ NB400_395.out _ | refine IsS116.far ?_ NB400_396.out _ | refine IsS116.far ?_ NB400_411.out _ | refine IsS116.far ?_ NB400_412.out _) | exact HI400.out))
 (case side2 => repeat (first | (with_reducible first | exact HB.out | apply below_alloc | apply pw_below_drewN | apply below_drew1 | refine below_set ?_ (IsS116.ge HI400.out) | refine below_set ?_ GE395.out | refine below_set ?_ GE396.out | refine below_set ?_ GE411.out | refine below_set ?_ GE412.out) | exact HB.out))
 rintro e w25 ⟨rfl, hi, hb, hk⟩
 refine ⟨_, rfl, ?_⟩
 replace BK395 := Aside0.mk (KeepBut.blk hk (g' := gb395) (o := .cells #[.int .i64 0, .slice none 0 0] 24 (0, 0)) (pk BK395.out) NB395_400.out (by simp))
 replace BK396 := Aside0.mk (KeepBut.blk hk (g' := gb396) (o := .cells #[.int .i64 0, .slice none 0 0] 24 (0, 0)) (pk BK396.out) NB396_400.out (by simp))
 replace HO404 := Aside0.mk (Kd.R_mono (Kd.R_keep (IsS116.apart (show IsS116 w _ g400 t397 t409 t410 from by repeat (first | (with_reducible first | exact HI400.out | apply IsS116.alloc | apply IsS116.drewN | apply IsS116.drew | apply IsS116.set_1 | apply IsS116.set_2 | refine IsS116.far ?_ NB400_395.out _ | refine IsS116.far ?_ NB400_396.out _ | refine IsS116.far ?_ NB400_411.out _ | refine IsS116.far ?_ NB400_412.out _) | exact HI400.out)) (rk HO404.out) (by decide)) hk (fun _ h => h.2)) (fun _ h => h.1))
 replace HO408 := Aside0.mk (Kd.R_mono (Kd.R_keep (IsS116.apart (show IsS116 w _ g400 t397 t409 t410 from by repeat (first | (with_reducible first | exact HI400.out | apply IsS116.alloc | apply IsS116.drewN | apply IsS116.drew | apply IsS116.set_1 | apply IsS116.set_2 | refine IsS116.far ?_ NB400_395.out _ | refine IsS116.far ?_ NB400_396.out _ | refine IsS116.far ?_ NB400_411.out _ | refine IsS116.far ?_ NB400_412.out _) | exact HI400.out)) (rk HO408.out) (by decide)) hk (fun _ h => h.2)) (fun _ h => h.1))
 replace BK411 := Aside0.mk (KeepBut.blk hk (g' := gb411) (o := .cells #[.int .i64 t401, .slice Ao17 t402.length co17] 24 (0, 0)) (pk BK411.out) NB411_400.out (by simp))
 replace BK412 := Aside0.mk (KeepBut.blk hk (g' := gb412) (o := .cells #[.int .i64 t405, .slice Ao22 t406.length co22] 24 (0, 0)) (pk BK412.out) NB412_400.out (by simp))
 replace HB := Aside0.mk hb
 replace HI400 := Aside0.mk hi
 (try clear hb hk hi)
 refine hK.out _ _ ⟨(blk_cell BK411.out 0).trans rfl, (blk_cell BK411.out 1).trans rfl, (blk_cell BK412.out 0).trans rfl, (blk_cell BK412.out 1).trans rfl⟩ (fun hHeld => ?_)
 clear hK K
 refine nm ?_
 refine on 5 (some 20) HT_ (fun K hK => ?_)
 refine Kd.R_lit_step (Kd.int .i64) _ 2 ?hg (N := 20) ?hd (xs := ([1, (-1), 0, 2, t413] : List Int)) (inner := [.int .i64 1, .int .i64 (-1), .int .i64 0, .int .i64 2, .int .i64 t413]) (ok := fun _ => True) (okp := fun _ => True) ?hr ?hp (fun _ hk => hk) trivial (Below.refl _ _) (Nat.le_refl _) (by simp) ?_; (case hd => rfl); (case hg => rfl); (case hr => first | (go_simp; done) | (go_simp; rfl)); (case hp => exact (Reps.one (show Kd.M (Kd.int .i64) _ _ _ 1 [.int .i64 1] from rfl) (Reps.one (show Kd.M (Kd.int .i64) _ _ _ (-1) [.int .i64 (-1)] from rfl) (Reps.one (show Kd.M (Kd.int .i64) _ _ _ 0 [.int .i64 0] from rfl) (Reps.one (show Kd.M (Kd.int .i64) _ _ _ 2 [.int .i64 2] from rfl) (Reps.one (show Kd.M (Kd.int .i64) _ _ _ t413 [.int .i64 t413] from rfl) (Reps.none _ _)))))))
 intro v417 w26 ho27 hb hg_ hnew_
 clear hg_ hnew_
 (first | rw [← Ny416.out] at ho27 | (simp only [Int.reduceToNat] at ho27; rw [← Ny416.out] at ho27))
 have HO418 := Aside0.mk (Kd.R_lower (Kd.R_new' (Kd.R_new' ho27 (Kd.R_lt (rk HO404.out))) (Kd.R_lt (rk HO408.out))) (below_size (by repeat (first | (with_reducible first | exact HB.out | apply below_alloc | apply pw_below_drewN | apply below_drew1 | refine below_set ?_ (IsS116.ge HI400.out) | refine below_set ?_ GE395.out | refine below_set ?_ GE396.out | refine below_set ?_ GE411.out | refine below_set ?_ GE412.out) | exact HB.out))))
 replace HO404 := re HO404 ho27 hb
 replace HO408 := re HO408 ho27 hb
 replace BK395 := bb BK395 hb
 replace BK396 := bb BK396 hb
 replace BK411 := bb BK411 hb
 replace BK412 := bb BK412 hb
 replace HB := Aside0.mk (below_step (by repeat (first | (with_reducible first | exact HB.out | apply below_alloc | apply pw_below_drewN | apply below_drew1 | refine below_set ?_ (IsS116.ge HI400.out) | refine below_set ?_ GE395.out | refine below_set ?_ GE396.out | refine below_set ?_ GE411.out | refine below_set ?_ GE412.out) | exact HB.out)) hb)
 replace HI400 := Aside0.mk (IsS116.below (by repeat (first | (with_reducible first | exact HI400.out | apply IsS116.alloc | apply IsS116.drewN | apply IsS116.drew | apply IsS116.set_1 | apply IsS116.set_2 | refine IsS116.far ?_ NB400_395.out _ | refine IsS116.far ?_ NB400_396.out _ | refine IsS116.far ?_ NB400_411.out _ | refine IsS116.far ?_ NB400_412.out _) | exact HI400.out)) hb)
 clear hb ho27
 obtain ⟨Ao28, co28, eo28⟩ := Kd.R_slice HO418.out
 (first | subst eo28 | (injection eo28 with f1_ f2_ f3_; have f4_ := f1_.symm; have f5_ := f3_.symm; clear f1_ f2_ f3_; subst f4_; subst f5_))
 refine hK.out _ _ ⟨(blk_cell BK411.out 0).trans rfl, (blk_cell BK411.out 1).trans rfl, (blk_cell BK412.out 0).trans rfl, (blk_cell BK412.out 1).trans rfl⟩ (fun hHeld => ?_)
 clear hK K
 refine nm ?_
 refine on 6 (some 21) HT_ (fun K hK => ?_)
 refine gs Try.func98 #[.pointer (some ⟨g400, 0, none⟩), .slice Ao28 y416.length co28] ?_
 with_reducible refine (spec_l01Pick.calls g400 t397 t414 t415 _ _ y416 t419 t420 t421 w _ ?side1 ?side2 ?side3 ?side4 ?side5 A5.out).mono ?_
 (case side1 => repeat (first | (with_reducible first | exact HI400.out | apply IsS116.alloc | apply IsS116.drewN | apply IsS116.drew | apply IsS116.set_1 | apply IsS116.set_2 | refine IsS116.far ?_ NB400_395.out _ | refine IsS116.far ?_ NB400_396.out _ | refine IsS116.far ?_ NB400_411.out _ | refine IsS116.far ?_ NB400_412.out _) | exact HI400.out))
 (case side2 => repeat (first | (with_reducible first | exact HB.out | apply below_alloc | apply pw_below_drewN | apply below_drew1 | refine below_set ?_ (IsS116.ge HI400.out) | refine below_set ?_ GE395.out | refine below_set ?_ GE396.out | refine below_set ?_ GE411.out | refine below_set ?_ GE412.out) | exact HB.out))
 (case side3 => repeat (first | exact (Kd.R_reads' HO418.out).2.2 | (with_reducible refine Kd.C_alloc ?_ _) | (with_reducible refine Kd.C_drewN ?_ _) | (with_reducible refine Kd.C_drew ?_)))
 (case side4 => exact (Kd.R_reads' HO418.out).2.1)
 (case side5 => exact far_slice (IsS116.own_ne HI400.out HO418.out (by decide)))
 rintro e w29 ⟨rfl, hi, hb, hk⟩
 refine ⟨_, rfl, ?_⟩
 replace BK395 := Aside0.mk (KeepBut.blk hk (g' := gb395) (o := .cells #[.int .i64 0, .slice none 0 0] 24 (0, 0)) (pk BK395.out) NB395_400.out (by simp))
 replace BK396 := Aside0.mk (KeepBut.blk hk (g' := gb396) (o := .cells #[.int .i64 0, .slice none 0 0] 24 (0, 0)) (pk BK396.out) NB396_400.out (by simp))
 replace HO404 := Aside0.mk (Kd.R_mono (Kd.R_keep (IsS116.apart (show IsS116 w _ g400 t397 t414 t415 from by repeat (first | (with_reducible first | exact HI400.out | apply IsS116.alloc | apply IsS116.drewN | apply IsS116.drew | apply IsS116.set_1 | apply IsS116.set_2 | refine IsS116.far ?_ NB400_395.out _ | refine IsS116.far ?_ NB400_396.out _ | refine IsS116.far ?_ NB400_411.out _ | refine IsS116.far ?_ NB400_412.out _) | exact HI400.out)) (rk HO404.out) (by decide)) hk (fun _ h => h.2)) (fun _ h => h.1))
 replace HO408 := Aside0.mk (Kd.R_mono (Kd.R_keep (IsS116.apart (show IsS116 w _ g400 t397 t414 t415 from by repeat (first | (with_reducible first | exact HI400.out | apply IsS116.alloc | apply IsS116.drewN | apply IsS116.drew | apply IsS116.set_1 | apply IsS116.set_2 | refine IsS116.far ?_ NB400_395.out _ | refine IsS116.far ?_ NB400_396.out _ | refine IsS116.far ?_ NB400_411.out _ | refine IsS116.far ?_ NB400_412.out _) | exact HI400.out)) (rk HO408.out) (by decide)) hk (fun _ h => h.2)) (fun _ h => h.1))
 replace BK411 := Aside0.mk (KeepBut.blk hk (g' := gb411) (o := .cells #[.int .i64 t401, .slice Ao17 t402.length co17] 24 (0, 0)) (pk BK411.out) NB411_400.out (by simp))
 replace BK412 := Aside0.mk (KeepBut.blk hk (g' := gb412) (o := .cells #[.int .i64 t405, .slice Ao22 t406.length co22] 24 (0, 0)) (pk BK412.out) NB412_400.out (by simp))
 replace HO418 := Aside0.mk (Kd.R_mono (Kd.R_keep (IsS116.apart (show IsS116 w _ g400 t397 t414 t415 from by repeat (first | (with_reducible first | exact HI400.out | apply IsS116.alloc | apply IsS116.drewN | apply IsS116.drew | apply IsS116.set_1 | apply IsS116.set_2 | refine IsS116.far ?_ NB400_395.out _ | refine IsS116.far ?_ NB400_396.out _ | refine IsS116.far ?_ NB400_411.out _ | refine IsS116.far ?_ NB400_412.out _) | exact HI400.out)) (rk HO418.out) (by decide)) hk (fun _ h => h.2)) (fun _ h => h.1))
 replace HB := Aside0.mk hb
 replace HI400 := Aside0.mk hi
 (try clear hb hk hi)
 refine hK.out _ _ ⟨(blk_cell BK411.out 0).trans rfl, (blk_cell BK411.out 1).trans rfl, (blk_cell BK412.out 0).trans rfl, (blk_cell BK412.out 1).trans rfl⟩ (fun hHeld => ?_)
 clear hK K
 refine nm ?_
 refine on 7 none HT_ (fun K hK => ?_)
 have hs30 : w29.cell? ⟨gb395, 0, none⟩ = some (.int .i64 0) := (blk_cell BK395.out 0).trans rfl
 have hfs30 := blk_frozen BK395.out 0
 have hns30_1 := NB396_395.out
 have hns30_2 := NB411_395.out
 have hns30_3 := NB412_395.out
 have hms30_1 := NB395_396.out
 have hms30_2 := NB395_411.out
 have hms30_3 := NB395_412.out
 have hs31 : w29.cell? ⟨gb395, 1, none⟩ = some (.slice none 0 0) := (blk_cell BK395.out 1).trans rfl
 have hfs31 := blk_frozen BK395.out 1
 have hns31_1 := NB396_395.out
 have hns31_2 := NB411_395.out
 have hns31_3 := NB412_395.out
 have hms31_1 := NB395_396.out
 have hms31_2 := NB395_411.out
 have hms31_3 := NB395_412.out
 refine skip_ (w1 := ?_) (by rfl) rfl ?_ ?_
 rotate_left
 ·go_simp
  rfl
 refine hK.out _ _ ⟨((cell_far (p := ⟨gb395, _, none⟩) NB411_395.out _).trans (((cell_far (p := ⟨gb395, _, none⟩) NB411_395.out _).trans (hHeld.1)))), ((cell_far (p := ⟨gb395, _, none⟩) NB411_395.out _).trans (((cell_far (p := ⟨gb395, _, none⟩) NB411_395.out _).trans (hHeld.2.1)))), ((cell_far (p := ⟨gb395, _, none⟩) NB412_395.out _).trans (((cell_far (p := ⟨gb395, _, none⟩) NB412_395.out _).trans (hHeld.2.2.1)))), ((cell_far (p := ⟨gb395, _, none⟩) NB412_395.out _).trans (((cell_far (p := ⟨gb395, _, none⟩) NB412_395.out _).trans (hHeld.2.2.2))))⟩ (fun hHeld => ?_)
 clear hK K
 refine on 8 none HT_ (fun K hK => ?_)
 have hs32 : w29.cell? ⟨gb396, 0, none⟩ = some (.int .i64 0) := (blk_cell BK396.out 0).trans rfl
 have hfs32 := blk_frozen BK396.out 0
 have hns32_0 := NB395_396.out
 have hns32_2 := NB411_396.out
 have hns32_3 := NB412_396.out
 have hms32_0 := NB396_395.out
 have hms32_2 := NB396_411.out
 have hms32_3 := NB396_412.out
 have hs33 : w29.cell? ⟨gb396, 1, none⟩ = some (.slice none 0 0) := (blk_cell BK396.out 1).trans rfl
 have hfs33 := blk_frozen BK396.out 1
 have hns33_0 := NB395_396.out
 have hns33_2 := NB411_396.out
 have hns33_3 := NB412_396.out
 have hms33_0 := NB396_395.out
 have hms33_2 := NB396_411.out
 have hms33_3 := NB396_412.out
 refine skip_ (w1 := ?_) (by rfl) rfl ?_ ?_
 rotate_left
 ·go_simp
  rfl
 refine hK.out _ _ ⟨((cell_far (p := ⟨gb396, _, none⟩) NB411_396.out _).trans (((cell_far (p := ⟨gb396, _, none⟩) NB411_396.out _).trans (hHeld.1)))), ((cell_far (p := ⟨gb396, _, none⟩) NB411_396.out _).trans (((cell_far (p := ⟨gb396, _, none⟩) NB411_396.out _).trans (hHeld.2.1)))), ((cell_far (p := ⟨gb396, _, none⟩) NB412_396.out _).trans (((cell_far (p := ⟨gb396, _, none⟩) NB412_396.out _).trans (hHeld.2.2.1)))), ((cell_far (p := ⟨gb396, _, none⟩) NB412_396.out _).trans (((cell_far (p := ⟨gb396, _, none⟩) NB412_396.out _).trans (hHeld.2.2.2))))⟩ (fun hHeld => ?_)
 clear hK K
 refine pu 9 (some 4) HT_ ?_
 refine done_ (done_of HT_.out (by kernel_rfl)) ?_
 try go_wp2
 refine bodyPost_ret (results_list (rs := [.cell 2 24, .cell 3 24, .tmp 4]) rfl (by simp) (.cell gb395 24 #[.int .i64 t401, .slice Ao17 t402.length co17] (0, 0) _ rfl (by (with_reducible repeat (first | refine blk_drewN ?_ _ | refine blk_drew ?_ | refine blk_alloc ?_ _)); refine blk_far ?_ NB395_396.out _; (with_reducible repeat (first | refine blk_drewN ?_ _ | refine blk_drew ?_ | refine blk_alloc ?_ _)); refine blk_far ?_ NB395_396.out _; (with_reducible repeat (first | refine blk_drewN ?_ _ | refine blk_drew ?_ | refine blk_alloc ?_ _)); refine blk_put (cs := #[.int .i64 t401, .slice none 0 0]) ?_ 1 _ rfl; (with_reducible repeat (first | refine blk_drewN ?_ _ | refine blk_drew ?_ | refine blk_alloc ?_ _)); refine blk_put (cs := #[.int .i64 0, .slice none 0 0]) ?_ 0 _ rfl; (with_reducible repeat (first | refine blk_drewN ?_ _ | refine blk_drew ?_ | refine blk_alloc ?_ _)); exact BK395.out) Try.underlying24 rfl (by kernel_rfl) (.cell gb396 24 #[.int .i64 t405, .slice Ao22 t406.length co22] (0, 0) _ rfl (by (with_reducible repeat (first | refine blk_drewN ?_ _ | refine blk_drew ?_ | refine blk_alloc ?_ _)); refine blk_put (cs := #[.int .i64 t405, .slice none 0 0]) ?_ 1 _ rfl; (with_reducible repeat (first | refine blk_drewN ?_ _ | refine blk_drew ?_ | refine blk_alloc ?_ _)); refine blk_put (cs := #[.int .i64 0, .slice none 0 0]) ?_ 0 _ rfl; (with_reducible repeat (first | refine blk_drewN ?_ _ | refine blk_drew ?_ | refine blk_alloc ?_ _)); refine blk_far ?_ NB396_395.out _; (with_reducible repeat (first | refine blk_drewN ?_ _ | refine blk_drew ?_ | refine blk_alloc ?_ _)); refine blk_far ?_ NB396_395.out _; (with_reducible repeat (first | refine blk_drewN ?_ _ | refine blk_drew ?_ | refine blk_alloc ?_ _)); exact BK396.out) Try.underlying24 rfl (by kernel_rfl) (.tmp .nil)))) rfl ?_
 exact ⟨_, _, by first | rfl | (simp [errW_none, errW_some] <;> rfl) | (simp [*, errW_none, errW_some] <;> rfl), by (with_reducible repeat (first | apply Kd.R_alloc | apply Kd.R_drewN | apply Kd.R_drew)); exact Kd.R_mono (Kd.R_far (p := ⟨gb396, 1, none⟩) (Kd.R_far (p := ⟨gb396, 0, none⟩) (Kd.R_far (p := ⟨gb395, 1, none⟩) (Kd.R_far (p := ⟨gb395, 0, none⟩) (Kd.R_types (Kd.R_types HO404.out BK395.out (by decide)) BK396.out (by decide)) (fun _ hk => hk.1.2) (.int .i64 t401)) (fun _ hk => hk.1.2) (.slice Ao17 t402.length co17)) (fun _ hk => hk.2) (.int .i64 t405)) (fun _ hk => hk.2) (.slice Ao22 t406.length co22)) (fun _ hk => hk.1.1.1), by (with_reducible repeat (first | apply Kd.R_alloc | apply Kd.R_drewN | apply Kd.R_drew)); exact Kd.R_mono (Kd.R_far (p := ⟨gb396, 1, none⟩) (Kd.R_far (p := ⟨gb396, 0, none⟩) (Kd.R_far (p := ⟨gb395, 1, none⟩) (Kd.R_far (p := ⟨gb395, 0, none⟩) (Kd.R_types (Kd.R_types HO408.out BK395.out (by decide)) BK396.out (by decide)) (fun _ hk => hk.1.2) (.int .i64 t401)) (fun _ hk => hk.1.2) (.slice Ao17 t402.length co17)) (fun _ hk => hk.2) (.int .i64 t405)) (fun _ hk => hk.2) (.slice Ao22 t406.length co22)) (fun _ hk => hk.1.1.1), by repeat (first | (with_reducible first | exact HB.out | apply below_alloc | apply pw_below_drewN | apply below_drew1 | refine below_set ?_ (IsS116.ge HI400.out) | refine below_set ?_ GE395.out | refine below_set ?_ GE396.out | refine below_set ?_ GE411.out | refine below_set ?_ GE412.out) | exact HB.out)⟩

/-! ### spec_DrawTurnRing: function 45 -/
def spec_DrawTurnRing.f (k : Nat) (l0 : List Int) : Option (Int × List Int) := (spec_l01From.f k l0).bind fun bt423 => ((spec_l10Draw.f k bt423.1 bt423.2.1 bt423.2.2).bind fun bt427 => (some (bt427.1, bt427.2.1)))
theorem spec_DrawTurnRing.mono : ∀ a0 k, LeO (spec_DrawTurnRing.f k a0) (spec_DrawTurnRing.f (k + 1) a0) := by
 intro a0 k
 unfold spec_DrawTurnRing.f
 repeat' first | (with_reducible first | exact spec_l01From.mono _ _ | exact spec_l10Draw.mono _ _ _ _ | exact LeO.refl _ | exact LeO.none _ | refine LeO.ite ?_ ?_ | refine LeO.bind ?_ (fun _ => ?_)) | exact LeO.none _ | refine LeO.ite ?_ ?_ | refine LeO.bind ?_ (fun _ => ?_)
set_option maxHeartbeats 8000000 in
set_option maxRecDepth 100000 in
theorem spec_DrawTurnRing.calls (k : Nat) (A0 : Option Addr) (c0 : Nat) (l0 : List Int) (r1 : Int) (r2 : List Int) (w : World) (hr0 : Kd.C (Kd.int .u8) w A0 l0.length l0) (hc0 : l0.length ≤ c0) (h : spec_DrawTurnRing.f k l0 = some (r1, r2)) :
  Calls Try.prog 45 #[.slice A0 l0.length c0] w fun e w' => ∃ v1_ : Value, e = .returned (.agg #[.int .i64 r1, v1_]) ∧ Kd.R (Kd.int .i64) 2 w' w.heap.size (fun _ => True) v1_ r2 ∧ Below w.heap.size w w' := by
 have hu24 := Try.underlying24
 have HR0 := Aside0.mk hr0
 have HC0 := Aside0.mk hc0
 clear hr0 hc0
 have HB := Aside0.mk (Below.refl w.heap.size w)
 have H := h
 unfold spec_DrawTurnRing.f at H
 clear h
 replace H := Option.bind_eq_some_iff.mp H
 obtain ⟨⟨t423, t424, t425⟩, A20, H⟩ := H
 try dsimp only at H
 have A2 := Aside0.mk A20
 clear A20
 replace H := Option.bind_eq_some_iff.mp H
 obtain ⟨⟨t427, t428, t431, t432⟩, A30, H⟩ := H
 replace H : (some (t427, t428)) = some (r1, r2) := H
 have A3 := Aside0.mk A30
 clear A30
 simp only [Option.some.injEq, Prod.mk.injEq] at H
 obtain ⟨rfl, rfl⟩ := H
 go_enter Try.func45, Try.ntmps45
 go_wp2_with (first | ((with_reducible refine gate_dst (N := 2) rfl ?_); refine bx 2 #[.int .i64 0, .slice none 0 0] 24 (fun gb422 hg w4 hbox hb => ?_); have BK422 := Aside0.mk hbox; have GW422 := ge HB hg; have GE422 := GW422; replace HB := hs HB hb; clear hb hbox hg) | ((with_reducible refine gate_callee (f := 96) rfl ?_); refine gl (some 4) Try.func96 #[.slice A0 l0.length c0] ?_; (with_reducible refine (spec_l01From.calls k _ _ l0 t423 t424 t425 w _ ?side1 ?side2 ?side3 A2.out).mono ?_); (case side1 => repeat (first | (with_reducible first | exact HB.out | apply below_alloc | apply pw_below_drewN | apply below_drew1 | refine below_set ?_ GE422.out) | exact HB.out)); (case side2 => exact HR0.out); (case side3 => exact HC0.out); rintro e w5 ⟨g426, rfl, hi, hb, hb2⟩; refine ⟨_, rfl, ?_⟩; have HI426 := Aside0.mk hi; have NB426_422 := Aside0.mk (IsS116.ne_blk hi (blk_below (g := gb422) (o := .cells #[.int .i64 0, .slice none 0 0] 24 (0, 0)) (pk BK422.out) hb2) (by decide)); have NB422_426 := Aside0.mk (Ne.symm (IsS116.ne_blk hi (blk_below (g := gb422) (o := .cells #[.int .i64 0, .slice none 0 0] 24 (0, 0)) (pk BK422.out) hb2) (by decide))); replace BK422 := bb BK422 hb2; replace HB := Aside0.mk hb; (try clear hb hb2 hi)) | ((with_reducible refine gate_callee (f := 100) rfl ?_); refine gl (some 5) Try.func100 #[.pointer (some ⟨g426, 0, none⟩)] ?_; (with_reducible refine (spec_l10Draw.calls k g426 t423 t424 t425 t427 t428 t431 t432 w _ ?side1 ?side2 A3.out).mono ?_); (case side1 => repeat (first | (with_reducible first | exact HI426.out | apply IsS116.alloc | apply IsS116.drewN | apply IsS116.drew | apply IsS116.set_1 | apply IsS116.set_2 | refine IsS116.far ?_ NB426_422.out _) | exact HI426.out)); (case side2 => repeat (first | (with_reducible first | exact HB.out | apply below_alloc | apply pw_below_drewN | apply below_drew1 | refine below_set ?_ (IsS116.ge HI426.out) | refine below_set ?_ GE422.out) | exact HB.out)); rintro e w6 ⟨v429, rfl, ho0, hi, hb, hk⟩; refine ⟨_, rfl, ?_⟩; have HO430 := Aside0.mk (Kd.R_lower ho0 (below_size (by repeat (first | (with_reducible first | exact HB.out | apply below_alloc | apply pw_below_drewN | apply below_drew1 | refine below_set ?_ (IsS116.ge HI426.out) | refine below_set ?_ GE422.out) | exact HB.out)))); replace BK422 := Aside0.mk (KeepBut.blk hk (g' := gb422) (o := .cells #[.int .i64 0, .slice none 0 0] 24 (0, 0)) (pk BK422.out) NB422_426.out (by simp)); replace HB := Aside0.mk hb; replace HI426 := Aside0.mk hi; (try clear hb hk hi ho0); have hnb7 := NB422_426.out; have hnc7 := NB426_422.out; have hcz8_0 : w6.cell? ⟨gb422, 0, none⟩ = some (.int .i64 0) := (blk_cell BK422.out 0).trans rfl; have hcz8_1 : w6.cell? ⟨gb422, 1, none⟩ = some (.slice none 0 0) := (blk_cell BK422.out 1).trans rfl; have hfz8_0 := blk_frozen BK422.out 0; have hfz8_1 := blk_frozen BK422.out 1; obtain ⟨Ao9, co9, eo9⟩ := Kd.R_slice HO430.out; subst eo9))
 refine bodyPost_ret (results_cell_row rfl _ _ gb422 24 #[.int .i64 t427, .slice Ao9 t428.length co9] (0, 0) _ rfl (by (with_reducible repeat (first | refine blk_drewN ?_ _ | refine blk_drew ?_ | refine blk_alloc ?_ _)); refine blk_put (cs := #[.int .i64 t427, .slice none 0 0]) ?_ 1 _ rfl; (with_reducible repeat (first | refine blk_drewN ?_ _ | refine blk_drew ?_ | refine blk_alloc ?_ _)); refine blk_put (cs := #[.int .i64 0, .slice none 0 0]) ?_ 0 _ rfl; (with_reducible repeat (first | refine blk_drewN ?_ _ | refine blk_drew ?_ | refine blk_alloc ?_ _)); exact BK422.out) Try.underlying24 rfl (by kernel_rfl)) rfl ?_
 exact ⟨_, by first | rfl | (simp [errW_none, errW_some] <;> rfl) | (simp [*, errW_none, errW_some] <;> rfl), by (with_reducible repeat (first | apply Kd.R_alloc | apply Kd.R_drewN | apply Kd.R_drew)); exact Kd.R_mono (Kd.R_far (p := ⟨gb422, 1, none⟩) (Kd.R_far (p := ⟨gb422, 0, none⟩) (Kd.R_types HO430.out BK422.out (by decide)) (fun _ hk => hk.2) (.int .i64 t427)) (fun _ hk => hk.2) (.slice Ao9 t428.length co9)) (fun _ hk => trivial), by repeat (first | (with_reducible first | exact HB.out | apply below_alloc | apply pw_below_drewN | apply below_drew1 | refine below_set ?_ (IsS116.ge HI426.out) | refine below_set ?_ GE422.out) | exact HB.out)⟩

/-! ### spec_DrawTotalOfRing: function 46 -/
def spec_DrawTotalOfRing.f (k : Nat) (l0 : List Int) : Option (Int × List Int) := (spec_l01From.f k l0).bind fun bt434 => ((spec_l10Draw.f k bt434.1 bt434.2.1 bt434.2.2).bind fun bt438 => (some (bt438.1, bt438.2.1)))
theorem spec_DrawTotalOfRing.mono : ∀ a0 k, LeO (spec_DrawTotalOfRing.f k a0) (spec_DrawTotalOfRing.f (k + 1) a0) := by
 intro a0 k
 unfold spec_DrawTotalOfRing.f
 repeat' first | (with_reducible first | exact spec_l01From.mono _ _ | exact spec_l10Draw.mono _ _ _ _ | exact LeO.refl _ | exact LeO.none _ | refine LeO.ite ?_ ?_ | refine LeO.bind ?_ (fun _ => ?_)) | exact LeO.none _ | refine LeO.ite ?_ ?_ | refine LeO.bind ?_ (fun _ => ?_)
set_option maxHeartbeats 8000000 in
set_option maxRecDepth 100000 in
theorem spec_DrawTotalOfRing.calls (k : Nat) (A0 : Option Addr) (c0 : Nat) (l0 : List Int) (r1 : Int) (r2 : List Int) (w : World) (hr0 : Kd.C (Kd.int .u8) w A0 l0.length l0) (hc0 : l0.length ≤ c0) (h : spec_DrawTotalOfRing.f k l0 = some (r1, r2)) :
  Calls Try.prog 46 #[.slice A0 l0.length c0] w fun e w' => ∃ v1_ : Value, e = .returned (.agg #[.int .i64 r1, v1_]) ∧ Kd.R (Kd.int .i64) 2 w' w.heap.size (fun _ => True) v1_ r2 ∧ Below w.heap.size w w' := by
 have hu24 := Try.underlying24
 have HR0 := Aside0.mk hr0
 have HC0 := Aside0.mk hc0
 clear hr0 hc0
 have HB := Aside0.mk (Below.refl w.heap.size w)
 have H := h
 unfold spec_DrawTotalOfRing.f at H
 clear h
 replace H := Option.bind_eq_some_iff.mp H
 obtain ⟨⟨t434, t435, t436⟩, A20, H⟩ := H
 try dsimp only at H
 have A2 := Aside0.mk A20
 clear A20
 replace H := Option.bind_eq_some_iff.mp H
 obtain ⟨⟨t438, t439, t442, t443⟩, A30, H⟩ := H
 replace H : (some (t438, t439)) = some (r1, r2) := H
 have A3 := Aside0.mk A30
 clear A30
 simp only [Option.some.injEq, Prod.mk.injEq] at H
 obtain ⟨rfl, rfl⟩ := H
 go_enter Try.func46, Try.ntmps46
 go_wp2_with (first | ((with_reducible refine gate_dst (N := 2) rfl ?_); refine bx 2 #[.int .i64 0, .slice none 0 0] 24 (fun gb433 hg w4 hbox hb => ?_); have BK433 := Aside0.mk hbox; have GW433 := ge HB hg; have GE433 := GW433; replace HB := hs HB hb; clear hb hbox hg) | ((with_reducible refine gate_callee (f := 96) rfl ?_); refine gl (some 4) Try.func96 #[.slice A0 l0.length c0] ?_; (with_reducible refine (spec_l01From.calls k _ _ l0 t434 t435 t436 w _ ?side1 ?side2 ?side3 A2.out).mono ?_); (case side1 => repeat (first | (with_reducible first | exact HB.out | apply below_alloc | apply pw_below_drewN | apply below_drew1 | refine below_set ?_ GE433.out) | exact HB.out)); (case side2 => exact HR0.out); (case side3 => exact HC0.out); rintro e w5 ⟨g437, rfl, hi, hb, hb2⟩; refine ⟨_, rfl, ?_⟩; have HI437 := Aside0.mk hi; have NB437_433 := Aside0.mk (IsS116.ne_blk hi (blk_below (g := gb433) (o := .cells #[.int .i64 0, .slice none 0 0] 24 (0, 0)) (pk BK433.out) hb2) (by decide)); have NB433_437 := Aside0.mk (Ne.symm (IsS116.ne_blk hi (blk_below (g := gb433) (o := .cells #[.int .i64 0, .slice none 0 0] 24 (0, 0)) (pk BK433.out) hb2) (by decide))); replace BK433 := bb BK433 hb2; replace HB := Aside0.mk hb; (try clear hb hb2 hi)) | ((with_reducible refine gate_callee (f := 100) rfl ?_); refine gl (some 5) Try.func100 #[.pointer (some ⟨g437, 0, none⟩)] ?_; (with_reducible refine (spec_l10Draw.calls k g437 t434 t435 t436 t438 t439 t442 t443 w _ ?side1 ?side2 A3.out).mono ?_); (case side1 => repeat (first | (with_reducible first | exact HI437.out | apply IsS116.alloc | apply IsS116.drewN | apply IsS116.drew | apply IsS116.set_1 | apply IsS116.set_2 | refine IsS116.far ?_ NB437_433.out _) | exact HI437.out)); (case side2 => repeat (first | (with_reducible first | exact HB.out | apply below_alloc | apply pw_below_drewN | apply below_drew1 | refine below_set ?_ (IsS116.ge HI437.out) | refine below_set ?_ GE433.out) | exact HB.out)); rintro e w6 ⟨v440, rfl, ho0, hi, hb, hk⟩; refine ⟨_, rfl, ?_⟩; have HO441 := Aside0.mk (Kd.R_lower ho0 (below_size (by repeat (first | (with_reducible first | exact HB.out | apply below_alloc | apply pw_below_drewN | apply below_drew1 | refine below_set ?_ (IsS116.ge HI437.out) | refine below_set ?_ GE433.out) | exact HB.out)))); replace BK433 := Aside0.mk (KeepBut.blk hk (g' := gb433) (o := .cells #[.int .i64 0, .slice none 0 0] 24 (0, 0)) (pk BK433.out) NB433_437.out (by simp)); replace HB := Aside0.mk hb; replace HI437 := Aside0.mk hi; (try clear hb hk hi ho0); have hnb7 := NB433_437.out; have hnc7 := NB437_433.out; have hcz8_0 : w6.cell? ⟨gb433, 0, none⟩ = some (.int .i64 0) := (blk_cell BK433.out 0).trans rfl; have hcz8_1 : w6.cell? ⟨gb433, 1, none⟩ = some (.slice none 0 0) := (blk_cell BK433.out 1).trans rfl; have hfz8_0 := blk_frozen BK433.out 0; have hfz8_1 := blk_frozen BK433.out 1; obtain ⟨Ao9, co9, eo9⟩ := Kd.R_slice HO441.out; subst eo9))
 refine bodyPost_ret (results_cell_row rfl _ _ gb433 24 #[.int .i64 t438, .slice Ao9 t439.length co9] (0, 0) _ rfl (by (with_reducible repeat (first | refine blk_drewN ?_ _ | refine blk_drew ?_ | refine blk_alloc ?_ _)); refine blk_put (cs := #[.int .i64 t438, .slice none 0 0]) ?_ 1 _ rfl; (with_reducible repeat (first | refine blk_drewN ?_ _ | refine blk_drew ?_ | refine blk_alloc ?_ _)); refine blk_put (cs := #[.int .i64 0, .slice none 0 0]) ?_ 0 _ rfl; (with_reducible repeat (first | refine blk_drewN ?_ _ | refine blk_drew ?_ | refine blk_alloc ?_ _)); exact BK433.out) Try.underlying24 rfl (by kernel_rfl)) rfl ?_
 exact ⟨_, by first | rfl | (simp [errW_none, errW_some] <;> rfl) | (simp [*, errW_none, errW_some] <;> rfl), by (with_reducible repeat (first | apply Kd.R_alloc | apply Kd.R_drewN | apply Kd.R_drew)); exact Kd.R_mono (Kd.R_far (p := ⟨gb433, 1, none⟩) (Kd.R_far (p := ⟨gb433, 0, none⟩) (Kd.R_types HO441.out BK433.out (by decide)) (fun _ hk => hk.2) (.int .i64 t438)) (fun _ hk => hk.2) (.slice Ao9 t439.length co9)) (fun _ hk => trivial), by repeat (first | (with_reducible first | exact HB.out | apply below_alloc | apply pw_below_drewN | apply below_drew1 | refine below_set ?_ (IsS116.ge HI437.out) | refine below_set ?_ GE433.out) | exact HB.out)⟩

/-! ### spec_DrawResiduesOf: function 47 -/
def spec_DrawResiduesOf.f (k : Nat) (l0 : List Int) : Option (Int) := (spec_l01From.f k l0).bind fun bt444 => ((spec_l01Next.f bt444.1 bt444.2.1 bt444.2.2 43).bind fun bt448 => (some bt448.1))
theorem spec_DrawResiduesOf.mono : ∀ a0 k, LeO (spec_DrawResiduesOf.f k a0) (spec_DrawResiduesOf.f (k + 1) a0) := by
 intro a0 k
 unfold spec_DrawResiduesOf.f
 repeat' first | (with_reducible first | exact spec_l01From.mono _ _ | exact LeO.refl _ | exact LeO.none _ | refine LeO.ite ?_ ?_ | refine LeO.bind ?_ (fun _ => ?_)) | exact LeO.none _ | refine LeO.ite ?_ ?_ | refine LeO.bind ?_ (fun _ => ?_)
set_option maxHeartbeats 8000000 in
set_option maxRecDepth 100000 in
theorem spec_DrawResiduesOf.calls (k : Nat) (A0 : Option Addr) (c0 : Nat) (l0 : List Int) (r : Int) (w : World) (hr0 : Kd.C (Kd.int .u8) w A0 l0.length l0) (hc0 : l0.length ≤ c0) (h : spec_DrawResiduesOf.f k l0 = some r) :
  Calls Try.prog 47 #[.slice A0 l0.length c0] w fun e w' => e = .returned (.int .i64 r) ∧ Below w.heap.size w w' := by
 have HR0 := Aside0.mk hr0
 have HC0 := Aside0.mk hc0
 clear hr0 hc0
 have HB := Aside0.mk (Below.refl w.heap.size w)
 have H : ((spec_l01From.f k l0).bind fun bt444 => ((spec_l01Next.f bt444.1 bt444.2.1 bt444.2.2 43).bind fun bt448 => (some bt448.1))) = some r := h
 clear h
 replace H := Option.bind_eq_some_iff.mp H
 obtain ⟨⟨t444, t445, t446⟩, A20, H⟩ := H
 try dsimp only at H
 have A2 := Aside0.mk A20
 clear A20
 replace H := Option.bind_eq_some_iff.mp H
 obtain ⟨⟨t448, t449, t450⟩, A30, H⟩ := H
 replace H : (some t448) = some r := H
 have A3 := Aside0.mk A30
 clear A30
 obtain rfl := Option.some.inj H
 go_enter Try.func47, Try.ntmps47
 go_wp2_with (first | ((with_reducible refine gate_callee (f := 96) rfl ?_); refine gl (some 4) Try.func96 #[.slice A0 l0.length c0] ?_; (with_reducible refine (spec_l01From.calls k _ _ l0 t444 t445 t446 w _ ?side1 ?side2 ?side3 A2.out).mono ?_); (case side1 => repeat (first | (with_reducible first | exact HB.out | apply below_alloc | apply pw_below_drewN | apply below_drew1) | exact HB.out)); (case side2 => exact HR0.out); (case side3 => exact HC0.out); rintro e w4 ⟨g447, rfl, hi, hb, hb2⟩; refine ⟨_, rfl, ?_⟩; have HI447 := Aside0.mk hi; replace HB := Aside0.mk hb; (try clear hb hb2 hi)) | ((with_reducible refine gate_callee (f := 101) rfl ?_); refine gl (some 5) Try.func101 #[.pointer (some ⟨g447, 0, none⟩), .int .i64 43] ?_; (with_reducible refine (spec_l01Next.calls g447 t444 t445 t446 43 t448 t449 t450 w _ ?side1 ?side2 A3.out).mono ?_); (case side1 => repeat (first | (with_reducible first | exact HI447.out | apply IsS116.alloc | apply IsS116.drewN | apply IsS116.drew | apply IsS116.set_1 | apply IsS116.set_2) | exact HI447.out)); (case side2 => repeat (first | (with_reducible first | exact HB.out | apply below_alloc | apply pw_below_drewN | apply below_drew1 | refine below_set ?_ (IsS116.ge HI447.out)) | exact HB.out)); rintro e w5 ⟨rfl, hi, hb, hk⟩; refine ⟨_, rfl, ?_⟩; replace HB := Aside0.mk hb; replace HI447 := Aside0.mk hi; (try clear hb hk hi)))
 go_ret
 exact ⟨by first | rfl | (simp [errW_none, errW_some] <;> rfl) | (simp [*, errW_none, errW_some] <;> rfl), by repeat (first | (with_reducible first | exact HB.out | apply below_alloc | apply pw_below_drewN | apply below_drew1 | refine below_set ?_ (IsS116.ge HI447.out)) | exact HB.out)⟩

/-! ### impl_ResiduesOf: function 48 -/
def impl_ResiduesOf.f (k : Nat) (a0 : Int) : Option (List Int × Int) := (impl_isModulus.f a0).bind fun t451 => (if t451 = true then ((impl_unitsOf.f k a0).bind fun t452 => (some (t452, 0))) else (some (([] : List Int), 2)))
theorem impl_ResiduesOf.mono : ∀ a0 k, LeO (impl_ResiduesOf.f k a0) (impl_ResiduesOf.f (k + 1) a0) := by
 intro a0 k
 unfold impl_ResiduesOf.f
 repeat' first | (with_reducible first | exact impl_unitsOf.mono _ _ | exact LeO.refl _ | exact LeO.none _ | refine LeO.ite ?_ ?_ | refine LeO.bind ?_ (fun _ => ?_)) | exact LeO.none _ | refine LeO.ite ?_ ?_ | refine LeO.bind ?_ (fun _ => ?_)
set_option maxHeartbeats 8000000 in
set_option maxRecDepth 100000 in
theorem impl_ResiduesOf.calls (k : Nat) (a0 : Int) (r1 : List Int) (r2 : Int) (w : World) (h : impl_ResiduesOf.f k a0 = some (r1, r2)) :
  Calls Try.prog 48 #[.int .i64 a0] w fun e w' => ∃ v0_ : Value, e = .returned (.tuple #[v0_, .int .i64 r2]) ∧ Kd.R (Kd.int .i64) 2 w' w.heap.size (fun _ => True) v0_ r1 ∧ Below w.heap.size w w' := by
 have HB := Aside0.mk (Below.refl w.heap.size w)
 have H := h
 unfold impl_ResiduesOf.f at H
 clear h
 replace H := Option.bind_eq_some_iff.mp H
 obtain ⟨t451, A20, H⟩ := H
 try dsimp only at H
 have A2 := Aside0.mk A20
 clear A20
 by_cases c3 : t451 = true
 ·subst c3
  have H1 : ((impl_unitsOf.f k a0).bind fun t452 => (some (t452, 0))) = some (r1, r2) := by rw [if_pos rfl] at H; exact H
  clear H
  have H := H1
  clear H1
  replace H := Option.bind_eq_some_iff.mp H
  obtain ⟨t452, A40, H⟩ := H
  replace H : (some (t452, 0)) = some (r1, r2) := H
  have A4 := Aside0.mk A40
  clear A40
  simp only [Option.some.injEq, Prod.mk.injEq] at H
  obtain ⟨rfl, rfl⟩ := H
  go_enter Try.func48, Try.ntmps48
  go_wp2_with (first | ((with_reducible refine gate_callee (f := 59) rfl ?_); refine gl (some 5) Try.func59 #[.int .i64 a0] ?_; (with_reducible refine (impl_isModulus.calls a0 true _ A2.out).mono ?_); rintro e w' ⟨rfl, ⟨nd, rfl⟩⟩; refine ⟨_, rfl, ?_⟩) | ((with_reducible refine gate_callee (f := 71) rfl ?_); refine gl (some 8) Try.func71 #[.int .i64 a0] ?_; (with_reducible refine (impl_unitsOf.calls k a0 t452 _ A4.out).mono ?_); rintro e w5 ⟨v453, rfl, ho0, hb⟩; refine ⟨_, rfl, ?_⟩; have HO454 := Aside0.mk (Kd.R_lower ho0 (below_size (bk HB.out))); replace HB := hs HB hb; (try clear hb ho0)))
  go_ret2
  exact ⟨_, by first | rfl | (simp [errW_none, errW_some] <;> rfl) | (simp [*, errW_none, errW_some] <;> rfl), rk HO454.out, bk HB.out⟩
 ·replace c3 := Bool.eq_false_iff.mpr c3
  subst c3
  have H1 : (some (([] : List Int), 2)) = some (r1, r2) := by rw [if_neg (show ¬ (false = true) by decide)] at H; exact H
  clear H
  have H := H1
  clear H1
  simp only [Option.some.injEq, Prod.mk.injEq] at H
  obtain ⟨rfl, rfl⟩ := H
  go_enter Try.func48, Try.ntmps48
  go_wp2_with (first | ((with_reducible refine gate_callee (f := 59) rfl ?_); refine gl (some 5) Try.func59 #[.int .i64 a0] ?_; (with_reducible refine (impl_isModulus.calls a0 false _ A2.out).mono ?_); rintro e w' ⟨rfl, ⟨nd, rfl⟩⟩; refine ⟨_, rfl, ?_⟩))
  go_ret2
  exact ⟨_, by first | rfl | (simp [errW_none, errW_some] <;> rfl) | (simp [*, errW_none, errW_some] <;> rfl), by first | exact Kd.R_nil _ _ _ _ _ | exact Kd.N_nil _ _ _ _ _ | exact Kd.V_nil _ _ _ _ _ | exact Kd.Q_nil _ _ _ _ _ | exact Kd.S_nil _ _ _ _ _, bk HB.out⟩

/-! ### spec_ResiduesOf: function 49 -/
def spec_ResiduesOf.f (k : Nat) (a0 : Int) : Option (List Int × Int) := (spec_l01In.f a0 2 40).bind fun t455 => (if t455 = true then ((spec_l10Residues.f k a0).bind fun t456 => (some (t456, 0))) else (some (([] : List Int), 2)))
theorem spec_ResiduesOf.mono : ∀ a0 k, LeO (spec_ResiduesOf.f k a0) (spec_ResiduesOf.f (k + 1) a0) := by
 intro a0 k
 unfold spec_ResiduesOf.f
 repeat' first | (with_reducible first | exact spec_l10Residues.mono _ _ | exact LeO.refl _ | exact LeO.none _ | refine LeO.ite ?_ ?_ | refine LeO.bind ?_ (fun _ => ?_)) | exact LeO.none _ | refine LeO.ite ?_ ?_ | refine LeO.bind ?_ (fun _ => ?_)
set_option maxHeartbeats 8000000 in
set_option maxRecDepth 100000 in
theorem spec_ResiduesOf.calls (k : Nat) (a0 : Int) (r1 : List Int) (r2 : Int) (w : World) (h : spec_ResiduesOf.f k a0 = some (r1, r2)) :
  Calls Try.prog 49 #[.int .i64 a0] w fun e w' => ∃ v0_ : Value, e = .returned (.tuple #[v0_, .int .i64 r2]) ∧ Kd.R (Kd.int .i64) 2 w' w.heap.size (fun _ => True) v0_ r1 ∧ Below w.heap.size w w' := by
 have HB := Aside0.mk (Below.refl w.heap.size w)
 have H := h
 unfold spec_ResiduesOf.f at H
 clear h
 replace H := Option.bind_eq_some_iff.mp H
 obtain ⟨t455, A20, H⟩ := H
 try dsimp only at H
 have A2 := Aside0.mk A20
 clear A20
 by_cases c3 : t455 = true
 ·subst c3
  have H1 : ((spec_l10Residues.f k a0).bind fun t456 => (some (t456, 0))) = some (r1, r2) := by rw [if_pos rfl] at H; exact H
  clear H
  have H := H1
  clear H1
  replace H := Option.bind_eq_some_iff.mp H
  obtain ⟨t456, A40, H⟩ := H
  replace H : (some (t456, 0)) = some (r1, r2) := H
  have A4 := Aside0.mk A40
  clear A40
  simp only [Option.some.injEq, Prod.mk.injEq] at H
  obtain ⟨rfl, rfl⟩ := H
  go_enter Try.func49, Try.ntmps49
  go_wp2_with (first | ((with_reducible refine gate_callee (f := 53) rfl ?_); refine gl (some 5) Try.func53 #[.int .i64 a0, .int .i64 2, .int .i64 40] ?_; (with_reducible refine (spec_l01In.calls a0 2 40 true _ A2.out).mono ?_); rintro e w' ⟨rfl, ⟨nd, rfl⟩⟩; refine ⟨_, rfl, ?_⟩) | ((with_reducible refine gate_callee (f := 56) rfl ?_); refine gl (some 8) Try.func56 #[.int .i64 a0] ?_; (with_reducible refine (spec_l10Residues.calls k a0 t456 _ A4.out).mono ?_); rintro e w5 ⟨v457, rfl, ho0, hb⟩; refine ⟨_, rfl, ?_⟩; have HO458 := Aside0.mk (Kd.R_lower ho0 (below_size (bk HB.out))); replace HB := hs HB hb; (try clear hb ho0)))
  go_ret2
  exact ⟨_, by first | rfl | (simp [errW_none, errW_some] <;> rfl) | (simp [*, errW_none, errW_some] <;> rfl), rk HO458.out, bk HB.out⟩
 ·replace c3 := Bool.eq_false_iff.mpr c3
  subst c3
  have H1 : (some (([] : List Int), 2)) = some (r1, r2) := by rw [if_neg (show ¬ (false = true) by decide)] at H; exact H
  clear H
  have H := H1
  clear H1
  simp only [Option.some.injEq, Prod.mk.injEq] at H
  obtain ⟨rfl, rfl⟩ := H
  go_enter Try.func49, Try.ntmps49
  go_wp2_with (first | ((with_reducible refine gate_callee (f := 53) rfl ?_); refine gl (some 5) Try.func53 #[.int .i64 a0, .int .i64 2, .int .i64 40] ?_; (with_reducible refine (spec_l01In.calls a0 2 40 false _ A2.out).mono ?_); rintro e w' ⟨rfl, ⟨nd, rfl⟩⟩; refine ⟨_, rfl, ?_⟩))
  go_ret2
  exact ⟨_, by first | rfl | (simp [errW_none, errW_some] <;> rfl) | (simp [*, errW_none, errW_some] <;> rfl), by first | exact Kd.R_nil _ _ _ _ _ | exact Kd.N_nil _ _ _ _ _ | exact Kd.V_nil _ _ _ _ _ | exact Kd.Q_nil _ _ _ _ _ | exact Kd.S_nil _ _ _ _ _, bk HB.out⟩

/-! ### impl_TotientOf: function 51 -/
def impl_TotientOf.f (k : Nat) (a0 : Int) : Option (Int × Int) := (impl_within.f a0 1 1000).bind fun t459 => (if t459 = true then ((impl_totient.f k a0).bind fun t460 => (some (t460, 0))) else (some (0, 2)))
theorem impl_TotientOf.mono : ∀ a0 k, LeO (impl_TotientOf.f k a0) (impl_TotientOf.f (k + 1) a0) := by
 intro a0 k
 unfold impl_TotientOf.f
 repeat' first | (with_reducible first | exact impl_totient.mono _ _ | exact LeO.refl _ | exact LeO.none _ | refine LeO.ite ?_ ?_ | refine LeO.bind ?_ (fun _ => ?_)) | exact LeO.none _ | refine LeO.ite ?_ ?_ | refine LeO.bind ?_ (fun _ => ?_)
set_option maxHeartbeats 8000000 in
set_option maxRecDepth 100000 in
theorem impl_TotientOf.calls (k : Nat) (a0 : Int) (r1 : Int) (r2 : Int) (w : World) (h : impl_TotientOf.f k a0 = some (r1, r2)) :
  Calls Try.prog 51 #[.int .i64 a0] w fun e w' => e = .returned (.tuple #[.int .i64 r1, .int .i64 r2]) ∧ Below w.heap.size w w' := by
 have HB := Aside0.mk (Below.refl w.heap.size w)
 have H := h
 unfold impl_TotientOf.f at H
 clear h
 replace H := Option.bind_eq_some_iff.mp H
 obtain ⟨t459, A20, H⟩ := H
 try dsimp only at H
 have A2 := Aside0.mk A20
 clear A20
 by_cases c3 : t459 = true
 ·subst c3
  have H1 : ((impl_totient.f k a0).bind fun t460 => (some (t460, 0))) = some (r1, r2) := by rw [if_pos rfl] at H; exact H
  clear H
  have H := H1
  clear H1
  replace H := Option.bind_eq_some_iff.mp H
  obtain ⟨t460, A40, H⟩ := H
  replace H : (some (t460, 0)) = some (r1, r2) := H
  have A4 := Aside0.mk A40
  clear A40
  simp only [Option.some.injEq, Prod.mk.injEq] at H
  obtain ⟨rfl, rfl⟩ := H
  go_enter Try.func51, Try.ntmps51
  go_wp2_with (first | ((with_reducible refine gate_callee (f := 77) rfl ?_); refine gl (some 5) Try.func77 #[.int .i64 a0, .int .i64 1, .int .i64 1000] ?_; (with_reducible refine (impl_within.calls a0 1 1000 true _ A2.out).mono ?_); rintro e w' ⟨rfl, ⟨nd, rfl⟩⟩; refine ⟨_, rfl, ?_⟩) | ((with_reducible refine gate_callee (f := 97) rfl ?_); refine gl (some 8) Try.func97 #[.int .i64 a0] ?_; (with_reducible refine (impl_totient.calls k a0 t460 _ A4.out).mono ?_); rintro e w5 ⟨rfl, hb⟩; refine ⟨_, rfl, ?_⟩; replace HB := hs HB hb; (try clear hb)))
  go_ret2
  exact ⟨by first | rfl | (simp [errW_none, errW_some] <;> rfl) | (simp [*, errW_none, errW_some] <;> rfl), bk HB.out⟩
 ·replace c3 := Bool.eq_false_iff.mpr c3
  subst c3
  have H1 : (some (0, 2)) = some (r1, r2) := by rw [if_neg (show ¬ (false = true) by decide)] at H; exact H
  clear H
  have H := H1
  clear H1
  simp only [Option.some.injEq, Prod.mk.injEq] at H
  obtain ⟨rfl, rfl⟩ := H
  go_enter Try.func51, Try.ntmps51
  go_wp2_with (first | ((with_reducible refine gate_callee (f := 77) rfl ?_); refine gl (some 5) Try.func77 #[.int .i64 a0, .int .i64 1, .int .i64 1000] ?_; (with_reducible refine (impl_within.calls a0 1 1000 false _ A2.out).mono ?_); rintro e w' ⟨rfl, ⟨nd, rfl⟩⟩; refine ⟨_, rfl, ?_⟩))
  go_ret2
  exact ⟨by first | rfl | (simp [errW_none, errW_some] <;> rfl) | (simp [*, errW_none, errW_some] <;> rfl), bk HB.out⟩

/-! ### laws_sum: function 52 -/
def laws_sum.l0 : Nat → List Int → Int → Int → Option (Int)
 | 0, _, _, _ => none
 | k + 1, x0, x3, x4 => if x4 < (x0.length : Int) then (if 0 ≤ x4 then (laws_sum.l0 k x0 (wrap64 (x3 + (rd x0 x4))) (wrap64 (x4 + 1))) else (none)) else (some x3)
def laws_sum.f (k : Nat) (l0 : List Int) : Option (Int) := laws_sum.l0 k l0 0 0
theorem laws_sum.mono_l : ∀ k, (∀ y0 y1 y2, LeO (laws_sum.l0 k y0 y1 y2) (laws_sum.l0 (k + 1) y0 y1 y2))
 | 0 => fun _ _ _ r h => by simp [laws_sum.l0] at h
 | k + 1 => by
  have ih0 := laws_sum.mono_l k
  ·intro y0 y1 y2
   unfold laws_sum.l0
   repeat' first | (with_reducible first | exact ih0 _ _ _ | exact LeO.refl _ | exact LeO.none _ | refine LeO.ite ?_ ?_ | refine LeO.bind ?_ (fun _ => ?_)) | exact ih0 _ _ _ | exact LeO.none _ | refine LeO.ite ?_ ?_ | refine LeO.bind ?_ (fun _ => ?_)
theorem laws_sum.mono : ∀ a0 k, LeO (laws_sum.f k a0) (laws_sum.f (k + 1) a0) := by
 intro a0 k
 have ih0 := laws_sum.mono_l k
 unfold laws_sum.f
 repeat' first | (with_reducible first | exact ih0 _ _ _ | exact LeO.refl _ | exact LeO.none _ | refine LeO.ite ?_ ?_ | refine LeO.bind ?_ (fun _ => ?_)) | exact ih0 _ _ _ | exact LeO.none _ | refine LeO.ite ?_ ?_ | refine LeO.bind ?_ (fun _ => ?_)
set_option maxHeartbeats 8000000 in
set_option maxRecDepth 100000 in
theorem laws_sum.calls (k : Nat) (A0 : Option Addr) (c0 : Nat) (l0 : List Int) (r : Int) (w : World) (hr0 : Kd.C (Kd.int .i64) w A0 l0.length l0) (hc0 : l0.length ≤ c0) (h : laws_sum.f k l0 = some r) :
  Calls Try.prog 52 #[.slice A0 l0.length c0] w fun e w' => e = .returned (.int .i64 r) ∧ Drawn0 w w' := by
 have HR0 := Aside0.mk hr0
 have HC0 := Aside0.mk hc0
 clear hr0 hc0
 have H : (laws_sum.l0 k l0 0 0) = some r := h
 clear h
 have H' := Aside0.mk H
 clear H
 go_enter Try.func52, Try.ntmps52
 go_wp2
 go_loopg [3, 4] k (fun kq v3 v4 w' => ∃ (x3_1 : Int) (x4_1 : Int), v3 = .int .i64 x3_1 ∧ v4 = .int .i64 x4_1 ∧ Aside0 (laws_sum.l0 kq l0 x3_1 x4_1 = some r) ∧ Aside0 (kq ≤ k) ∧ Drawn0 w w')
 case atStart => exact ⟨(0), (0), (by first | rfl | (simp; done) | (simp [*]; done)), (by first | rfl | (simp; done) | (simp [*]; done)), H', ⟨Nat.le_refl _⟩, by repeat (first | exact Drawn0.refl _ | apply Drawn0.step)⟩
 case round =>
  clear H'
  obtain ⟨x3_1, x4_1, rfl, rfl, HA, HK1, ⟨m1, rfl⟩⟩ := hrel
  cases gk with
  | zero => exact absurd HA.out (by simp [laws_sum.l0])
  | succ k1 =>
   have H := HA.out
   clear HA
   simp only [laws_sum.l0] at H
   by_cases c2 : x4_1 < (l0.length : Int)
   ·rw [if_pos c2] at H
    have c2b0 : decide (x4_1 < (l0.length : Int)) = true := decide_eq_true c2
    clear c2
    by_cases c3 : 0 ≤ x4_1
    rotate_left
    ·rw [if_neg c3] at H; exact absurd H (by simp)
    rw [if_pos c3] at H
    have c3b0 : decide (0 ≤ x4_1) = true := decide_eq_true c3
    clear c3
    have H' := Aside0.mk H
    clear H
    have p461 : 0 ≤ (x4_1 : Int) := of_decide_eq_true (by first | (with_reducible assumption) | assumption)
    have q461 : x4_1 < (l0.length : Int) := of_decide_eq_true (by first | (with_reducible assumption) | assumption)
    obtain ⟨ad461, e461, hx461_0⟩ := Kd.at_int HR0.out x4_1 p461 q461
    cases e461
    replace p461 := eq_true p461
    replace q461 := eq_true q461
    go_wp2
    go_roundg k1
    case measure => have := HK1.out; omega
    case rel => exact ⟨(wrap64 (x3_1 + (rd l0 x4_1))), (wrap64 (x4_1 + 1)), (by first | rfl | (simp; done) | (simp [*]; done)), (by first | rfl | (simp; done) | (simp [*]; done)), H', ⟨by have := HK1.out; omega⟩, by repeat (first | exact Drawn0.refl _ | apply Drawn0.step)⟩
   ·rw [if_neg c2] at H
    have c2b0 : decide (x4_1 < (l0.length : Int)) = false := decide_eq_false c2
    clear c2
    obtain rfl := Option.some.inj H
    go_wp2
    go_ret
    exact ⟨by first | rfl | (simp; done) | (simp [*]; done), by repeat (first | exact Drawn0.refl _ | apply Drawn0.step)⟩

end Go.Proofs.Ythkdkiifchefhaa.PFnRings
