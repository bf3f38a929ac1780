-- LAID BY pp.py (a program of this repo): what the kit's print tells of this seat's functions, with contracts by hand
import Derived.Test.YthkdkiifchefhaaZPFnRingsx0
import Derived.Test.YthkdkiifchefhaaZPFnRingsx1
import Derived.Test.YthkdkiifchefhaaZPFnRingsx2
import Derived.Test.YthkdkiifchefhaaZPFnRingsx4
namespace Go.Proofs.Ythkdkiifchefhaa.PFnRings
open Go.RowKit Go.Proofs.YthkdkiifchefhaaW.PrintWords Go.Proofs.YthkdkiifchefhaaW.PrintLast Go.Proofs.YthkdkiifchefhaaW.PrintMore
attribute [local go_sem] max2_int min2_int max_two min_two max_three min_three max_four min_four   -- for this text's walks alone
set_option linter.unusedVariables false
set_option linter.unusedSimpArgs false

/-! ### spec_l10Times: function 80 -/
mutual
def spec_l10Times.l0 : Nat → List Int → Int → Int → List Int → Int → List Int → Int → List Int → Option (Int × List Int)
 | 0, _, _, _, _, _, _, _, _ => none
 | k + 1, x6, x7, x215000, x215001, x216000, x216001, x225000, x225001 => if x7 < (x6.length : Int) then (spec_l10Times.l1 k x6 x7 0 x215000 x215001 x216000 x216001 x225000 x225001) else (some (x225000, x225001))
def spec_l10Times.l1 : Nat → List Int → Int → Int → Int → List Int → Int → List Int → Int → List Int → Option (Int × List Int)
 | 0, _, _, _, _, _, _, _, _, _ => none
 | k + 1, x6, x7, x8, x215000, x215001, x216000, x216001, x225000, x225001 => if x8 < (x6.length : Int) then (if 0 ≤ x7 then (if x7 < (x6.length : Int) then (if 0 ≤ x8 then (if x215000 = 0 then (none) else ((spec_l10Place.f k x6 (Int.tmod (wrap64 ((rd x6 x7) * (rd x6 x8))) x215000)).bind fun t227 => (if 0 ≤ t227 then (if t227 < (x225001.length : Int) then (if x7 < (x215001.length : Int) then (if x8 < (x216001.length : Int) then (spec_l10Times.l1 k x6 x7 (wrap64 (x8 + 1)) x215000 x215001 x216000 x216001 x225000 (x225001.set (t227 : Int).toNat (wrap64 ((rd x225001 t227) + (wrap64 ((rd x215001 x7) * (rd x216001 x8))))))) else (none)) else (none)) else (none)) else (none)))) else (none)) else (none)) else (none)) else (spec_l10Times.l0 k x6 (wrap64 (x7 + 1)) x215000 x215001 x216000 x216001 x225000 x225001)
end
def spec_l10Times.f (k : Nat) (a0_0 : Int) (l0_1 : List Int) (a1_0 : Int) (l1_1 : List Int) : Option (Int × List Int) := (spec_l10Zero.f k a0_0).bind fun bt217 => ((spec_l10Residues.f k a0_0).bind fun t221 => (spec_l10Times.l0 k t221 0 a0_0 l0_1 a1_0 l1_1 bt217.1 bt217.2))
theorem spec_l10Times.mono_l : ∀ k, (∀ y0 y1 y2 y3 y4 y5 y6 y7, LeO (spec_l10Times.l0 k y0 y1 y2 y3 y4 y5 y6 y7) (spec_l10Times.l0 (k + 1) y0 y1 y2 y3 y4 y5 y6 y7)) ∧ (∀ y0 y1 y2 y3 y4 y5 y6 y7 y8, LeO (spec_l10Times.l1 k y0 y1 y2 y3 y4 y5 y6 y7 y8) (spec_l10Times.l1 (k + 1) y0 y1 y2 y3 y4 y5 y6 y7 y8))
 | 0 => ⟨fun _ _ _ _ _ _ _ _ r h => by simp [spec_l10Times.l0] at h, fun _ _ _ _ _ _ _ _ _ r h => by simp [spec_l10Times.l1] at h⟩
 | k + 1 => by
  obtain ⟨ih0, ih1⟩ := spec_l10Times.mono_l k
  refine ⟨?_, ?_⟩
  ·intro y0 y1 y2 y3 y4 y5 y6 y7
   unfold spec_l10Times.l0
   repeat' first | (with_reducible first | exact ih0 _ _ _ _ _ _ _ _ | exact ih1 _ _ _ _ _ _ _ _ _ | exact spec_l10Place.mono _ _ _ | exact spec_l10Residues.mono _ _ | exact spec_l10Zero.mono _ _ | exact LeO.refl _ | exact LeO.none _ | refine LeO.ite ?_ ?_ | refine LeO.bind ?_ (fun _ => ?_)) | exact ih0 _ _ _ _ _ _ _ _ | exact ih1 _ _ _ _ _ _ _ _ _ | exact LeO.none _ | refine LeO.ite ?_ ?_ | refine LeO.bind ?_ (fun _ => ?_)
  ·intro y0 y1 y2 y3 y4 y5 y6 y7 y8
   unfold spec_l10Times.l1
   repeat' first | (with_reducible first | exact ih0 _ _ _ _ _ _ _ _ | exact ih1 _ _ _ _ _ _ _ _ _ | exact spec_l10Place.mono _ _ _ | exact spec_l10Residues.mono _ _ | exact spec_l10Zero.mono _ _ | exact LeO.refl _ | exact LeO.none _ | refine LeO.ite ?_ ?_ | refine LeO.bind ?_ (fun _ => ?_)) | exact ih0 _ _ _ _ _ _ _ _ | exact ih1 _ _ _ _ _ _ _ _ _ | exact LeO.none _ | refine LeO.ite ?_ ?_ | refine LeO.bind ?_ (fun _ => ?_)
theorem spec_l10Times.mono : ∀ a0 a1 a2 a3 k, LeO (spec_l10Times.f k a0 a1 a2 a3) (spec_l10Times.f (k + 1) a0 a1 a2 a3) := by
 intro a0 a1 a2 a3 k
 obtain ⟨ih0, ih1⟩ := spec_l10Times.mono_l k
 unfold spec_l10Times.f
 repeat' first | (with_reducible first | exact ih0 _ _ _ _ _ _ _ _ | exact ih1 _ _ _ _ _ _ _ _ _ | exact spec_l10Place.mono _ _ _ | exact spec_l10Residues.mono _ _ | exact spec_l10Zero.mono _ _ | exact LeO.refl _ | exact LeO.none _ | refine LeO.ite ?_ ?_ | refine LeO.bind ?_ (fun _ => ?_)) | exact ih0 _ _ _ _ _ _ _ _ | exact ih1 _ _ _ _ _ _ _ _ _ | exact LeO.none _ | refine LeO.ite ?_ ?_ | refine LeO.bind ?_ (fun _ => ?_)
def spec_l10Times.T1 : Bool × List (List Nat × List Nat) := (true, [([], []), ([0], [0]), ([1], [1]), ([], []), ([3], [3]), ([4, 2], [4]), ([], []), ([6, 2, 5, 0, 1, 2, 6], [2, 6]), ([5, 7, 0, 1, 2, 3, 4, 5, 6, 7], [5])])
def spec_l10Times.B1 : List Nat := [0, 1, 3, 0, 8, 31, 0, 127, 255]
theorem spec_l10Times.tab1 : rtab .any (opsOf Try.f80 1) = spec_l10Times.T1 := by kernel_rfl
theorem spec_l10Times.bits1 : waitsOk spec_l10Times.T1.2 spec_l10Times.B1 = true := by kernel_rfl
def spec_l10Times.T8 : Bool × List (List Nat × List Nat) := (true, [([], []), ([], []), ([], []), ([1, 2], [1, 2]), ([3], [3]), ([], []), ([], []), ([5, 6], [5, 6]), ([7], [7]), ([4, 8], [4, 8]), ([], []), ([10], [10]), ([9, 11], [9, 11]), ([0, 12], [0, 12]), ([13, 13, 0, 1, 2, 3, 4, 5, 6, 7, 8, 9, 10, 11, 12, 13], [13])])
def spec_l10Times.B8 : List Nat := [0, 0, 0, 6, 14, 0, 0, 96, 224, 510, 0, 1024, 4094, 8191, 16383]
theorem spec_l10Times.tab8 : rtab .any (opsOf Try.f80 8) = spec_l10Times.T8 := by kernel_rfl
theorem spec_l10Times.bits8 : waitsOk spec_l10Times.T8.2 spec_l10Times.B8 = true := by kernel_rfl
def spec_l10Times.T9 : Bool × List (List Nat × List Nat) := (true, [([], []), ([0], [0]), ([], []), ([], []), ([3], [3]), ([], []), ([4, 5], [4, 5]), ([6], [6]), ([], []), ([8], [8]), ([], []), ([9, 10], [9, 10]), ([11], [11]), ([], []), ([13], [13]), ([], []), ([14, 15], [14, 15]), ([16], [16]), ([12, 17], [12, 17]), ([7, 18], [7, 18]), ([1, 2, 0, 1, 2, 3, 4, 5, 6, 7, 8, 9, 10, 11, 12, 13, 14, 15, 16, 17, 18, 19], [1, 2]), ([20, 19, 0, 1, 2, 3, 4, 5, 6, 7, 8, 9, 10, 11, 12, 13, 14, 15, 16, 17, 18, 19], [19, 20])])
def spec_l10Times.B9 : List Nat := [0, 1, 0, 0, 8, 0, 56, 120, 0, 256, 0, 1792, 3840, 0, 8192, 0, 57344, 122880, 261888, 524280, 1048575, 2097151]
theorem spec_l10Times.tab9 : rtab .any (opsOf Try.f80 9) = spec_l10Times.T9 := by kernel_rfl
theorem spec_l10Times.bits9 : waitsOk spec_l10Times.T9.2 spec_l10Times.B9 = true := by kernel_rfl
set_option maxHeartbeats 8000000 in
set_option maxRecDepth 100000 in
theorem spec_l10Times.calls (k : Nat) (a0_0 : Int) (A0_1 : Option Addr) (c0_1 : Nat) (l0_1 : List Int) (a1_0 : Int) (A1_1 : Option Addr) (c1_1 : Nat) (l1_1 : List Int) (r1 : Int) (r2 : List Int) (w : World) (hr0_1 : Kd.C (Kd.int .i64) w A0_1 l0_1.length l0_1) (hc0_1 : l0_1.length ≤ c0_1) (hr1_1 : Kd.C (Kd.int .i64) w A1_1 l1_1.length l1_1) (hc1_1 : l1_1.length ≤ c1_1) (h : spec_l10Times.f k a0_0 l0_1 a1_0 l1_1 = some (r1, r2)) :
  Calls Try.prog 80 #[.agg #[.int .i64 a0_0, .slice A0_1 l0_1.length c0_1], .agg #[.int .i64 a1_0, .slice A1_1 l1_1.length c1_1]] w fun e w' => ∃ v1_ : Value, e = .returned (.agg #[.int .i64 r1, v1_]) ∧ Kd.R (Kd.int .i64) 2 w' w.heap.size (fun _ => True) v1_ r2 ∧ Below w.heap.size w w' := by
 have hu24 := Try.underlying24
 have HR0_1 := Aside0.mk hr0_1
 have HC0_1 := Aside0.mk hc0_1
 clear hr0_1 hc0_1
 have HR1_1 := Aside0.mk hr1_1
 have HC1_1 := Aside0.mk hc1_1
 clear hr1_1 hc1_1
 have HB := Aside0.mk (Below.refl w.heap.size w)
 have H := h
 unfold spec_l10Times.f at H
 clear h
 replace H := Option.bind_eq_some_iff.mp H
 obtain ⟨⟨t217, t218⟩, A30, H⟩ := H
 try dsimp only at H
 have A3 := Aside0.mk A30
 clear A30
 replace H := Option.bind_eq_some_iff.mp H
 obtain ⟨t221, A40, H⟩ := H
 try dsimp only at H
 have A4 := Aside0.mk A40
 clear A40
 have H' := Aside0.mk H
 clear H
 go_enter Try.func80, Try.ntmps80
 try go_wp2_with (first | ((with_reducible refine gate_dst (N := 2) rfl ?_); refine bx 2 #[.int .i64 a0_0, .slice A0_1 l0_1.length c0_1] 24 (fun gb214 hg w5 hbox hb => ?_); have BK214 := Aside0.mk hbox; have GW214 := ge HB hg; have GE214 := GW214; replace HB := hs HB hb; clear hb hbox hg) | ((with_reducible refine gate_dst (N := 3) rfl ?_); refine bx 3 #[.int .i64 a1_0, .slice A1_1 l1_1.length c1_1] 24 (fun gb215 hg w6 hbox hb => ?_); have BK215 := Aside0.mk hbox; have GW215 := ge HB hg; have GE215 := GW215; obtain ⟨NB214_215, NB215_214⟩ := nb BK214 hg; replace BK214 := bb BK214 hb; replace HB := hs HB hb; clear hb hbox hg) | ((with_reducible refine gate_dst (N := 4) rfl ?_); refine bx 4 #[.int .i64 0, .slice none 0 0] 24 (fun gb216 hg w7 hbox hb => ?_); have BK216 := Aside0.mk hbox; have GW216 := ge HB hg; have GE216 := GW216; obtain ⟨NB214_216, NB216_214⟩ := nb BK214 hg; obtain ⟨NB215_216, NB216_215⟩ := nb BK215 hg; replace BK214 := bb BK214 hb; replace BK215 := bb BK215 hb; replace HB := hs HB hb; clear hb hbox hg))
 replace BK214 := bd BK214
 replace BK215 := bd BK215
 replace BK216 := bd BK216
 replace HB := hd0 HB
 refine start_ (n := 9) (S := fun w' => w'.cell? ⟨gb214, 0, none⟩ = some (.int .i64 a0_0) ∧ w'.cell? ⟨gb214, 1, none⟩ = some (.slice A0_1 l0_1.length c0_1)) (ds := []) #[false, false, false, false, false, false, false, false, false] (by kernel_rfl) rfl rfl ⟨(blk_cell BK214.out 0).trans rfl, (blk_cell BK214.out 1).trans rfl⟩ (fun hHeld => ?_); refine with_tabW spec_l10Times.tab1 spec_l10Times.bits1 (fun HT_ HW_ => ?_)
 generalize w7.drew = w8 at BK214 BK215 BK216 HB hHeld ⊢
 refine pu 0 (some 10) HT_ ?_
 refine pu 3 (some 13) HT_ ?_
 refine tk 1 (some 11) HT_ HW_ hHeld ?_ (hy := by rintro w' ⟨s0, s1⟩; go_simp; with_reducible rfl)
 refine tk 4 (some 14) HT_ HW_ hHeld ?_ (hy := by rintro w' ⟨s0, s1⟩; go_simp; with_reducible rfl)
 refine join_ (σ := Value × Value × Nat) 2 #[true, true, true, true, true, true, true, false, false] (fun s_ => [(12, .agg #[.int .i64 t217, s_.1]), (15, s_.2.1), (5, .pointer (some ⟨s_.2.2, 0, none⟩))]) (fun s_ w' => (w'.cell? ⟨gb214, 0, none⟩ = some (.int .i64 a0_0) ∧ w'.cell? ⟨gb214, 1, none⟩ = some (.slice A0_1 l0_1.length c0_1)) ∧ (Kd.R (Kd.int .i64) 2 w' w.heap.size (fun k_ => some k_ ≠ (s_.2.1 : Value).ownBlock) s_.1 t218) ∧ (Kd.R (Kd.int .i64) 2 w' w.heap.size (fun k_ => some k_ ≠ (s_.1 : Value).ownBlock) s_.2.1 t221) ∧ (w'.heap[gb214]? = some (.cells #[.int .i64 a0_0, .slice A0_1 l0_1.length c0_1] 24 (0, 0))) ∧ (w'.heap[gb215]? = some (.cells #[.int .i64 a1_0, .slice A1_1 l1_1.length c1_1] 24 (0, 0))) ∧ (w'.heap[gb216]? = some (.cells #[.int .i64 0, .slice none 0 0] 24 (0, 0))) ∧ (w'.heap[s_.2.2]? = some (.cells #[.int .i64 0, .slice none 0 0] 24 (0, 0))) ∧ (w.heap.size ≤ s_.2.2) ∧ (w.heap.size ≤ s_.2.2) ∧ (gb214 ≠ s_.2.2) ∧ (s_.2.2 ≠ gb214) ∧ (gb215 ≠ s_.2.2) ∧ (s_.2.2 ≠ gb215) ∧ (gb216 ≠ s_.2.2) ∧ (s_.2.2 ≠ gb216) ∧ (Below w.heap.size w w')) ?_ ?_
 rotate_left
 ·intro hCont
  refine two_ (i := 2) (j := 6) (Ni := some 12) (Nj := some 5) #[true, true, true, true, true, false, false, false, false] #[true, true, false, true, true, false, true, false, false] rfl rfl rfl rfl (two_of HT_.out (by kernel_rfl)) (by decide) (by decide) (fun K hK => ?_) (fun K hK => ?_)
  ·skip
   refine gs Try.func55 #[.int .i64 a0_0] ?_
   with_reducible refine (spec_l10Zero.calls k a0_0 t217 t218 _ A3.out).mono ?_
   rintro e w9 ⟨v219, rfl, ho0, hb⟩
   refine ⟨_, rfl, ?_⟩
   have HO220 := Aside0.mk (Kd.R_lower ho0 (below_size (bks HB.out)))
   replace BK214 := bb BK214 hb
   replace BK215 := bb BK215 hb
   replace BK216 := bb BK216 hb
   replace HB := hs HB hb
   (try clear hb ho0)
   refine hK.out _ _ ⟨(blk_cell BK214.out 0).trans rfl, (blk_cell BK214.out 1).trans rfl⟩ (fun hHeld => ?_)
   clear hK K
   refine nm ?_
   refine two_ (i := 5) (j := 6) (Ni := some 15) (Nj := some 5) #[true, true, true, true, true, true, false, false, false] #[true, true, true, true, true, false, true, false, false] rfl rfl rfl rfl (two_of HT_.out (by kernel_rfl)) (by decide) (by decide) (fun K hK => ?_) (fun K hK => ?_)
   ·skip
    refine gs Try.func56 #[.int .i64 a0_0] ?_
    with_reducible refine (spec_l10Residues.calls k a0_0 t221 _ A4.out).mono ?_
    rintro e w10 ⟨v222, rfl, ho0, hb⟩
    refine ⟨_, rfl, ?_⟩
    have HO223 := Aside0.mk (Kd.R_lower (Kd.R_new' ho0 (Kd.R_lt (rk HO220.out))) (below_size (bks HB.out)))
    replace HO220 := re HO220 ho0 hb
    replace BK214 := bb BK214 hb
    replace BK215 := bb BK215 hb
    replace BK216 := bb BK216 hb
    replace HB := hs HB hb
    (try clear hb ho0)
    refine hK.out _ _ ⟨(blk_cell BK214.out 0).trans rfl, (blk_cell BK214.out 1).trans rfl⟩ (fun hHeld => ?_)
    clear hK K
    refine nm ?_
    refine on 6 (some 5) HT_ (fun K hK => ?_)
    refine bs 5 #[.int .i64 0, .slice none 0 0] 24 (fun gb224 hg w11 hbox hb => ?_)
    have BK224 := Aside0.mk hbox
    have GW224 := ge HB hg
    have GE224 := GW224
    obtain ⟨NB214_224, NB224_214⟩ := nb BK214 hg
    obtain ⟨NB215_224, NB224_215⟩ := nb BK215 hg
    obtain ⟨NB216_224, NB224_216⟩ := nb BK216 hg
    replace HO220 := rb HO220 hb
    replace HO223 := rb HO223 hb
    replace BK214 := bb BK214 hb
    replace BK215 := bb BK215 hb
    replace BK216 := bb BK216 hb
    replace HB := hs HB hb
    clear hb hbox hg
    refine hK.out _ _ ⟨(blk_cell BK214.out 0).trans rfl, (blk_cell BK214.out 1).trans rfl⟩ (fun hHeld => ?_)
    clear hK K
    refine nm ?_
    exact np (hCont (v219, v222, gb224) _ ⟨hHeld, (rk (Kd.R_mono HO220.out (fun _ hk => hk.2))), (rk (Kd.R_mono HO223.out (fun _ hk => hk.2))), (pk BK214.out), (pk BK215.out), (pk BK216.out), (pk BK224.out), GW224.out, GE224.out, NB214_224.out, NB224_214.out, NB215_224.out, NB224_215.out, NB216_224.out, NB224_216.out, (bks HB.out)⟩)
   ·skip
    refine bs 5 #[.int .i64 0, .slice none 0 0] 24 (fun gb224 hg w10 hbox hb => ?_)
    have BK224 := Aside0.mk hbox
    have GW224 := ge HB hg
    have GE224 := GW224
    obtain ⟨NB214_224, NB224_214⟩ := nb BK214 hg
    obtain ⟨NB215_224, NB224_215⟩ := nb BK215 hg
    obtain ⟨NB216_224, NB224_216⟩ := nb BK216 hg
    replace HO220 := rb HO220 hb
    replace BK214 := bb BK214 hb
    replace BK215 := bb BK215 hb
    replace BK216 := bb BK216 hb
    replace HB := hs HB hb
    clear hb hbox hg
    refine hK.out _ _ ⟨(blk_cell BK214.out 0).trans rfl, (blk_cell BK214.out 1).trans rfl⟩ (fun hHeld => ?_)
    clear hK K
    refine nm ?_
    refine on 5 (some 15) HT_ (fun K hK => ?_)
    refine gs Try.func56 #[.int .i64 a0_0] ?_
    with_reducible refine (spec_l10Residues.calls k a0_0 t221 _ A4.out).mono ?_
    rintro e w11 ⟨v222, rfl, ho0, hb⟩
    refine ⟨_, rfl, ?_⟩
    have HO223 := Aside0.mk (Kd.R_lower (Kd.R_new' ho0 (Kd.R_lt (rk HO220.out))) (below_size (bks HB.out)))
    replace HO220 := re HO220 ho0 hb
    replace BK214 := bb BK214 hb
    replace BK215 := bb BK215 hb
    replace BK216 := bb BK216 hb
    replace BK224 := bb BK224 hb
    replace HB := hs HB hb
    (try clear hb ho0)
    refine hK.out _ _ ⟨(blk_cell BK214.out 0).trans rfl, (blk_cell BK214.out 1).trans rfl⟩ (fun hHeld => ?_)
    clear hK K
    refine nm ?_
    exact np (hCont (v219, v222, gb224) _ ⟨hHeld, (rk (Kd.R_mono HO220.out (fun _ hk => hk.2))), (rk (Kd.R_mono HO223.out (fun _ hk => hk.2))), (pk BK214.out), (pk BK215.out), (pk BK216.out), (pk BK224.out), GW224.out, GE224.out, NB214_224.out, NB224_214.out, NB215_224.out, NB224_215.out, NB216_224.out, NB224_216.out, (bks HB.out)⟩)
  ·skip
   refine bs 5 #[.int .i64 0, .slice none 0 0] 24 (fun gb224 hg w9 hbox hb => ?_)
   have BK224 := Aside0.mk hbox
   have GW224 := ge HB hg
   have GE224 := GW224
   obtain ⟨NB214_224, NB224_214⟩ := nb BK214 hg
   obtain ⟨NB215_224, NB224_215⟩ := nb BK215 hg
   obtain ⟨NB216_224, NB224_216⟩ := nb BK216 hg
   replace BK214 := bb BK214 hb
   replace BK215 := bb BK215 hb
   replace BK216 := bb BK216 hb
   replace HB := hs HB hb
   clear hb hbox hg
   refine hK.out _ _ ⟨(blk_cell BK214.out 0).trans rfl, (blk_cell BK214.out 1).trans rfl⟩ (fun hHeld => ?_)
   clear hK K
   refine nm ?_
   refine on 2 (some 12) HT_ (fun K hK => ?_)
   refine gs Try.func55 #[.int .i64 a0_0] ?_
   with_reducible refine (spec_l10Zero.calls k a0_0 t217 t218 _ A3.out).mono ?_
   rintro e w10 ⟨v219, rfl, ho0, hb⟩
   refine ⟨_, rfl, ?_⟩
   have HO220 := Aside0.mk (Kd.R_lower ho0 (below_size (bks HB.out)))
   replace BK214 := bb BK214 hb
   replace BK215 := bb BK215 hb
   replace BK216 := bb BK216 hb
   replace BK224 := bb BK224 hb
   replace HB := hs HB hb
   (try clear hb ho0)
   refine hK.out _ _ ⟨(blk_cell BK214.out 0).trans rfl, (blk_cell BK214.out 1).trans rfl⟩ (fun hHeld => ?_)
   clear hK K
   refine nm ?_
   refine on 5 (some 15) HT_ (fun K hK => ?_)
   refine gs Try.func56 #[.int .i64 a0_0] ?_
   with_reducible refine (spec_l10Residues.calls k a0_0 t221 _ A4.out).mono ?_
   rintro e w11 ⟨v222, rfl, ho0, hb⟩
   refine ⟨_, rfl, ?_⟩
   have HO223 := Aside0.mk (Kd.R_lower (Kd.R_new' ho0 (Kd.R_lt (rk HO220.out))) (below_size (bks HB.out)))
   replace HO220 := re HO220 ho0 hb
   replace BK214 := bb BK214 hb
   replace BK215 := bb BK215 hb
   replace BK216 := bb BK216 hb
   replace BK224 := bb BK224 hb
   replace HB := hs HB hb
   (try clear hb ho0)
   refine hK.out _ _ ⟨(blk_cell BK214.out 0).trans rfl, (blk_cell BK214.out 1).trans rfl⟩ (fun hHeld => ?_)
   clear hK K
   refine nm ?_
   exact np (hCont (v219, v222, gb224) _ ⟨hHeld, (rk (Kd.R_mono HO220.out (fun _ hk => hk.2))), (rk (Kd.R_mono HO223.out (fun _ hk => hk.2))), (pk BK214.out), (pk BK215.out), (pk BK216.out), (pk BK224.out), GW224.out, GE224.out, NB214_224.out, NB224_214.out, NB215_224.out, NB224_215.out, NB216_224.out, NB224_216.out, (bks HB.out)⟩)
 rintro ⟨v219, v222, gb224⟩ w12 ⟨hS_, h0_, h1_, h2_, h3_, h4_, h5_, h6_, h7_, h8_, h9_, h10_, h11_, h12_, h13_, h14_⟩
 try dsimp only at h0_ h1_ h2_ h3_ h4_ h5_ h6_ h7_ h8_ h9_ h10_ h11_ h12_ h13_ h14_
 have HO220 := Aside0.mk h0_
 have HO223 := Aside0.mk h1_
 have BK224 := Aside0.mk h5_
 have GW224 := Aside0.mk h6_
 have GE224 := Aside0.mk h7_
 have NB214_224 := Aside0.mk h8_
 have NB224_214 := Aside0.mk h9_
 have NB215_224 := Aside0.mk h10_
 have NB224_215 := Aside0.mk h11_
 have NB216_224 := Aside0.mk h12_
 have NB224_216 := Aside0.mk h13_
 replace BK214 := Aside0.mk h2_
 replace BK215 := Aside0.mk h3_
 replace BK216 := Aside0.mk h4_
 replace HB := Aside0.mk h14_
 clear h0_ h1_ h2_ h3_ h4_ h5_ h6_ h7_ h8_ h9_ h10_ h11_ h12_ h13_ h14_
 have hHeld : w12.cell? ⟨gb214, 0, none⟩ = some (.int .i64 a0_0) ∧ w12.cell? ⟨gb214, 1, none⟩ = some (.slice A0_1 l0_1.length c0_1) := hS_
 obtain ⟨Ao14, co14, eo14⟩ := Kd.R_slice HO220.out
 (first | subst eo14 | (injection eo14 with f1_ f2_ f3_; have f4_ := f1_.symm; have f5_ := f3_.symm; clear f1_ f2_ f3_; subst f4_; subst f5_))
 refine norm_ (a' := ?_) ?_ ?_
 rotate_left
 ·simp only [putAll, Act.put, List.setIfInBounds_toArray, List.set_cons_zero, List.set_cons_succ]
  rfl
 refine on 7 none HT_ (fun K hK => ?_)
 have hs13 : w12.cell? ⟨gb224, 0, none⟩ = some (.int .i64 0) := (blk_cell BK224.out 0).trans rfl
 have hfs13 := blk_frozen BK224.out 0
 have hns13_0 := NB214_224.out
 have hns13_1 := NB215_224.out
 have hns13_2 := NB216_224.out
 have hms13_0 := NB224_214.out
 have hms13_1 := NB224_215.out
 have hms13_2 := NB224_216.out
 have hs15 : w12.cell? ⟨gb224, 1, none⟩ = some (.slice none 0 0) := (blk_cell BK224.out 1).trans rfl
 have hfs15 := blk_frozen BK224.out 1
 have hns15_0 := NB214_224.out
 have hns15_1 := NB215_224.out
 have hns15_2 := NB216_224.out
 have hms15_0 := NB224_214.out
 have hms15_1 := NB224_215.out
 have hms15_2 := NB224_216.out
 refine skip_ (w1 := ?_) (by rfl) rfl ?_ ?_
 rotate_left
 ·go_simp
  rfl
 refine hK.out _ _ ⟨((cell_far (p := ⟨gb224, _, none⟩) NB214_224.out _).trans (((cell_far (p := ⟨gb224, _, none⟩) NB214_224.out _).trans (hHeld.1)))), ((cell_far (p := ⟨gb224, _, none⟩) NB214_224.out _).trans (((cell_far (p := ⟨gb224, _, none⟩) NB214_224.out _).trans (hHeld.2))))⟩ (fun hHeld => ?_)
 clear hK K
 refine pu 8 (some 6) HT_ ?_
 refine done_ (done_of HT_.out (by kernel_rfl)) ?_
 try go_wp2
 go_loopg [7] k (fun kq v7 w' => ∃ (x6_1 : List Int) (x7_1 : Int) (x225001_1 : List Int) (u225001 : Value), v7 = .int .i64 x7_1 ∧ Aside0 (spec_l10Times.l0 kq x6_1 x7_1 a0_0 l0_1 a1_0 l1_1 t217 x225001_1 = some (r1, r2)) ∧ Aside0 (kq ≤ k) ∧ Aside0 (Kd.R (Kd.int .i64) 2 w' w.heap.size (fun k_ => some k_ ≠ (u225001 : Value).ownBlock) v222 x6_1) ∧ Aside0 (Kd.R (Kd.int .i64) 2 w' w.heap.size (fun k_ => some k_ ≠ (v222 : Value).ownBlock) u225001 x225001_1) ∧ Aside0 (w'.heap[gb214]? = some (.cells #[.int .i64 a0_0, (.slice A0_1 l0_1.length c0_1)] 24 (0, 0))) ∧ Aside0 (w'.heap[gb215]? = some (.cells #[.int .i64 a1_0, (.slice A1_1 l1_1.length c1_1)] 24 (0, 0))) ∧ Aside0 (w'.heap[gb216]? = some (.cells #[.int .i64 0, (.slice none 0 0)] 24 (0, 0))) ∧ Aside0 (w'.heap[gb224]? = some (.cells #[.int .i64 t217, u225001] 24 (0, 0))) ∧ Aside0 (Below w.heap.size w w'))
 case atStart => exact ⟨(t221), (0), (t218), (.slice Ao14 t218.length co14), (by first | rfl | (simp; done) | (simp [*]; done)), H', ⟨Nat.le_refl _⟩, ⟨by (with_reducible repeat (first | apply Kd.R_alloc | apply Kd.R_drewN | apply Kd.R_drew)); exact Kd.R_mono (Kd.R_far (p := ⟨gb224, 1, none⟩) (Kd.R_far (p := ⟨gb224, 0, none⟩) (Kd.R_types HO223.out BK224.out (by decide)) (fun _ hk => hk.2) (.int .i64 t217)) (fun _ hk => hk.2) (.slice Ao14 t218.length co14)) (fun _ hk => hk.1)⟩, ⟨by (with_reducible repeat (first | apply Kd.R_alloc | apply Kd.R_drewN | apply Kd.R_drew)); exact Kd.R_mono (Kd.R_far (p := ⟨gb224, 1, none⟩) (Kd.R_far (p := ⟨gb224, 0, none⟩) (Kd.R_types HO220.out BK224.out (by decide)) (fun _ hk => hk.2) (.int .i64 t217)) (fun _ hk => hk.2) (.slice Ao14 t218.length co14)) (fun _ hk => hk.1)⟩, ⟨bf BK214⟩, ⟨bf BK215⟩, ⟨bf BK216⟩, ⟨by (with_reducible repeat (first | refine blk_drewN ?_ _ | refine blk_drew ?_ | refine blk_alloc ?_ _)); refine blk_put (cs := #[.int .i64 t217, .slice none 0 0]) ?_ 1 _ rfl; (with_reducible repeat (first | refine blk_drewN ?_ _ | refine blk_drew ?_ | refine blk_alloc ?_ _)); refine blk_put (cs := #[.int .i64 0, .slice none 0 0]) ?_ 0 _ rfl; (with_reducible repeat (first | refine blk_drewN ?_ _ | refine blk_drew ?_ | refine blk_alloc ?_ _)); exact BK224.out⟩, ⟨bks HB.out⟩⟩
 case round =>
  clear H'
  try clear c1; try clear p2; try clear c5; try clear c8
  obtain ⟨x6_1, x7_1, x225001_1, u225001, rfl, HA, HK1, HO_6, HO_225001, BK214, BK215, BK216, BK224, HB⟩ := hrel
  cases gk with
  | zero => exact absurd HA.out (by simp [spec_l10Times.l0])
  | succ k1 =>
   have H := HA.out
   clear HA
   simp only [spec_l10Times.l0] at H
   by_cases c16 : x7_1 < (x6_1.length : Int)
   ·rw [if_pos c16] at H
    have c16b0 : decide (x7_1 < (x6_1.length : Int)) = true := decide_eq_true c16
    clear c16
    have H' := Aside0.mk H
    clear H
    obtain ⟨Ao17, co17, eo17⟩ := Kd.R_slice HO_6.out
    subst eo17
    go_wp2
    go_loopg [8] k1 (fun kq v8 w' => ∃ (x6_2 : List Int) (x8_2 : Int) (x225001_2 : List Int) (u225001 : Value), v8 = .int .i64 x8_2 ∧ Aside0 (spec_l10Times.l1 kq x6_2 x7_1 x8_2 a0_0 l0_1 a1_0 l1_1 t217 x225001_2 = some (r1, r2)) ∧ Aside0 (kq ≤ k1) ∧ Aside0 (Kd.R (Kd.int .i64) 2 w' w.heap.size (fun k_ => some k_ ≠ (u225001 : Value).ownBlock) (.slice Ao17 x6_1.length co17) x6_2) ∧ Aside0 (Kd.R (Kd.int .i64) 2 w' w.heap.size (fun k_ => some k_ ≠ ((.slice Ao17 x6_1.length co17) : Value).ownBlock) u225001 x225001_2) ∧ Aside0 (w'.heap[gb214]? = some (.cells #[.int .i64 a0_0, (.slice A0_1 l0_1.length c0_1)] 24 (0, 0))) ∧ Aside0 (w'.heap[gb215]? = some (.cells #[.int .i64 a1_0, (.slice A1_1 l1_1.length c1_1)] 24 (0, 0))) ∧ Aside0 (w'.heap[gb216]? = some (.cells #[.int .i64 0, (.slice none 0 0)] 24 (0, 0))) ∧ Aside0 (w'.heap[gb224]? = some (.cells #[.int .i64 t217, u225001] 24 (0, 0))) ∧ Aside0 (Below w.heap.size w w'))
    case atStart => exact ⟨(x6_1), (0), (x225001_1), (u225001), (by first | rfl | (simp; done) | (simp [*]; done)), H', ⟨Nat.le_refl _⟩, ⟨rk HO_6.out⟩, ⟨rk HO_225001.out⟩, ⟨pk BK214.out⟩, ⟨pk BK215.out⟩, ⟨pk BK216.out⟩, ⟨pk BK224.out⟩, ⟨bks HB.out⟩⟩
    case round =>
     clear H'
     try clear c1; try clear p2; try clear c5; try clear c8; try clear c16; try clear c16b0; try clear p2
     obtain ⟨x6_2, x8_2, x225001_2, u225001, rfl, HA, HK2, HO_6, HO_225001, BK214, BK215, BK216, BK224, HB⟩ := hrel
     have hl6_2 := (Kd.R_reads' HO_6.out).1
     rw [hl6_2] at HO_6
     (try simp only [hl6_2])
     (try simp only [hl6_2] at BK214)
     (try simp only [hl6_2] at BK215)
     (try simp only [hl6_2] at BK216)
     (try simp only [hl6_2] at BK224)
     (try simp only [hl6_2] at HO_225001)
     cases gk with
     | zero => exact absurd HA.out (by simp [spec_l10Times.l1])
     | succ k2 =>
      have H := HA.out
      clear HA
      simp only [spec_l10Times.l1] at H
      by_cases c18 : x8_2 < (x6_2.length : Int)
      ·rw [if_pos c18] at H
       have c18b0 : decide (x8_2 < (x6_2.length : Int)) = true := decide_eq_true c18
       clear c18
       by_cases c19 : 0 ≤ x7_1
       rotate_left
       ·rw [if_neg c19] at H; exact absurd H (by simp)
       rw [if_pos c19] at H
       have c19b0 : decide (0 ≤ x7_1) = true := decide_eq_true c19
       clear c19
       by_cases c20 : x7_1 < (x6_2.length : Int)
       rotate_left
       ·rw [if_neg c20] at H; exact absurd H (by simp)
       rw [if_pos c20] at H
       have c20b0 : decide (x7_1 < (x6_2.length : Int)) = true := decide_eq_true c20
       clear c20
       by_cases c21 : 0 ≤ x8_2
       rotate_left
       ·rw [if_neg c21] at H; exact absurd H (by simp)
       rw [if_pos c21] at H
       have c21b0 : decide (0 ≤ x8_2) = true := decide_eq_true c21
       clear c21
       by_cases c22 : a0_0 = 0
       ·rw [if_pos c22] at H; exact absurd H (by simp)
       rw [if_neg c22] at H
       have c22b0 : (a0_0 == 0) = false := beq_eq_false_iff_ne.mpr c22
       have c22b1 : (a0_0 != 0) = true := bne_iff_ne.mpr c22
       replace H := Option.bind_eq_some_iff.mp H
       obtain ⟨t227, A230, H⟩ := H
       try dsimp only at H
       have A23 := Aside0.mk A230
       clear A230
       by_cases c24 : 0 ≤ t227
       rotate_left
       ·rw [if_neg c24] at H; exact absurd H (by simp)
       rw [if_pos c24] at H
       have c24b0 : decide (0 ≤ t227) = true := decide_eq_true c24
       clear c24
       by_cases c25 : t227 < (x225001_2.length : Int)
       rotate_left
       ·rw [if_neg c25] at H; exact absurd H (by simp)
       rw [if_pos c25] at H
       have c25b0 : decide (t227 < (x225001_2.length : Int)) = true := decide_eq_true c25
       clear c25
       by_cases c26 : x7_1 < (l0_1.length : Int)
       rotate_left
       ·rw [if_neg c26] at H; exact absurd H (by simp)
       rw [if_pos c26] at H
       have c26b0 : decide (x7_1 < (l0_1.length : Int)) = true := decide_eq_true c26
       clear c26
       by_cases c27 : x8_2 < (l1_1.length : Int)
       rotate_left
       ·rw [if_neg c27] at H; exact absurd H (by simp)
       rw [if_pos c27] at H
       have c27b0 : decide (x8_2 < (l1_1.length : Int)) = true := decide_eq_true c27
       clear c27
       obtain ⟨y231, hy231⟩ : ∃ y_ : List Int, y_ = (x225001_2.set (t227 : Int).toNat (wrap64 ((rd x225001_2 t227) + (wrap64 ((rd l0_1 x7_1) * (rd l1_1 x8_2)))))) := ⟨_, rfl⟩
       replace H : (spec_l10Times.l1 k2 x6_2 x7_1 (wrap64 (x8_2 + 1)) a0_0 l0_1 a1_0 l1_1 t217 y231) = some (r1, r2) := by first | (rw [hy231]; with_reducible exact H) | (have H2_ := (Option.bind_some _ _).symm.trans H; rw [hy231]; with_reducible exact H2_) | (have H2_ := (Option.bind_some _ _).symm.trans H; with_reducible exact H2_) | with_reducible exact H | (rw [hy231]; exact H) | exact H
       have Ny231 := Aside0.mk hy231
       clear hy231
       have H' := Aside0.mk H
       clear H
       try go_wp2
       replace HO_6 := rd0 HO_6
       replace HO_225001 := rd0 HO_225001
       replace BK214 := bd BK214
       replace BK215 := bd BK215
       replace BK216 := bd BK216
       replace BK224 := bd BK224
       replace HB := hd0 HB
       have p225 : 0 ≤ (x7_1 : Int) := of_decide_eq_true (by first | (with_reducible assumption) | assumption)
       have q225 : x7_1 < (x6_2.length : Int) := of_decide_eq_true (by first | (with_reducible assumption) | assumption)
       try (obtain ⟨Aw_, cw_, ew_⟩ := Kd.R_slice HO_6.out; subst ew_)
       obtain ⟨ad225, e225, hx225_0⟩ := Kd.at_int (Kd.R_reads' HO_6.out).2.2 x7_1 p225 q225
       cases e225
       replace p225 := eq_true p225
       replace q225 := eq_true q225
       have p226 : 0 ≤ (x8_2 : Int) := of_decide_eq_true (by first | (with_reducible assumption) | assumption)
       have q226 : x8_2 < (x6_2.length : Int) := of_decide_eq_true (by first | (with_reducible assumption) | assumption)
       obtain ⟨ad226, e226, hx226_0⟩ := Kd.at_int (Kd.R_reads' HO_6.out).2.2 x8_2 p226 q226
       obtain rfl : ad225 = ad226 := (by injection e226)
       replace p226 := eq_true p226
       replace q226 := eq_true q226
       refine start_ (n := 15) (S := fun w' => w'.cell? ⟨gb214, 0, none⟩ = some (.int .i64 a0_0) ∧ w'.cell? ⟨gb214, 1, none⟩ = some (.slice A0_1 l0_1.length c0_1) ∧ w'.cell? (ad225.add (x7_1).toNat) = some (.int .i64 (rd x6_2 x7_1)) ∧ w'.cell? (ad225.add (x8_2).toNat) = some (.int .i64 (rd x6_2 x8_2))) (ds := []) #[false, false, false, false, false, false, false, false, false, false, false, false, false, false, false] (by kernel_rfl) rfl rfl ⟨(blk_cell BK214.out 0).trans rfl, (blk_cell BK214.out 1).trans rfl, hx225_0, hx226_0⟩ (fun hHeld => ?_); refine with_tabW spec_l10Times.tab8 spec_l10Times.bits8 (fun HT_ HW_ => ?_)
       generalize wr.drew = w29 at HO_6 HO_225001 BK214 BK215 BK216 BK224 HB hx225_0 hx226_0 hHeld ⊢
       refine pu 0 (some 28) HT_ ?_
       refine pu 1 (some 29) HT_ ?_
       refine pu 2 (some 30) HT_ ?_
       refine pu 3 (some 31) HT_ ?_
       refine pu 5 (some 33) HT_ ?_
       refine pu 6 (some 34) HT_ ?_
       refine pu 7 (some 35) HT_ ?_
       refine pu 10 (some 38) HT_ ?_
       refine tk 4 (some 32) HT_ HW_ hHeld ?_ (hy := by rintro w' ⟨s0, s1, s2, s3⟩; go_simp; with_reducible rfl)
       refine tk 8 (some 36) HT_ HW_ hHeld ?_ (hy := by rintro w' ⟨s0, s1, s2, s3⟩; go_simp; with_reducible rfl)
       refine pu 9 (some 37) HT_ ?_
       refine tk 11 (some 39) HT_ HW_ hHeld ?_ (hy := by rintro w' ⟨s0, s1, s2, s3⟩; go_simp; with_reducible rfl)
       refine pu 12 (some 40) HT_ ?_
       refine on 13 (some 41) HT_ (fun K hK => ?_)
       refine gs Try.func57 #[.slice (some ad225) x6_2.length co17, .int .i64 (Int.tmod (wrap64 ((rd x6_2 x7_1) * (rd x6_2 x8_2))) a0_0)] ?_
       with_reducible refine (spec_l10Place.calls k2 _ _ x6_2 (Int.tmod (wrap64 ((rd x6_2 x7_1) * (rd x6_2 x8_2))) a0_0) t227 _ ?side1 ?side2 A23.out).mono ?_
       (case side1 => repeat (first | exact (Kd.R_reads' HO_6.out).2.2 | (with_reducible refine Kd.C_alloc ?_ _) | (with_reducible refine Kd.C_drewN ?_ _) | (with_reducible refine Kd.C_drew ?_)))
       (case side2 => exact (Kd.R_reads' HO_6.out).2.1)
       rintro e w' ⟨rfl, ⟨nd, rfl⟩⟩
       refine ⟨_, rfl, ?_⟩
       refine hK.out _ _ ⟨(blk_cell BK214.out 0).trans rfl, (blk_cell BK214.out 1).trans rfl, hHeld.2.2.1, hHeld.2.2.2⟩ (fun hHeld => ?_)
       clear hK K
       refine nm ?_
       refine pu 14 (some 9) HT_ ?_
       refine done_ (done_of HT_.out (by kernel_rfl)) ?_
       try go_wp2
       (try (rw [drewN_self w29]; generalize hq_ : World.drewN w29 _ = w29; have n0_ : Aside0 (Kd.R (Kd.int .i64) 2 w29 w.heap.size (fun k_ => some k_ ≠ (.slice (some ad225) x6_2.length co17 : Value).ownBlock) u225001 x225001_2) := ⟨by rw [← hq_]; exact (rk HO_225001.out)⟩; have n1_ : Aside0 (Kd.R (Kd.int .i64) 2 w29 w.heap.size (fun k_ => some k_ ≠ (u225001 : Value).ownBlock) (.slice (some ad225) x6_2.length co17) x6_2) := ⟨by rw [← hq_]; exact (rk HO_6.out)⟩; have n2_ : Aside0 (w29.heap[gb214]? = some (.cells #[.int .i64 a0_0, .slice A0_1 l0_1.length c0_1] 24 (0, 0))) := ⟨by rw [← hq_]; exact (pk BK214.out)⟩; have n3_ : Aside0 (w29.heap[gb215]? = some (.cells #[.int .i64 a1_0, .slice A1_1 l1_1.length c1_1] 24 (0, 0))) := ⟨by rw [← hq_]; exact (pk BK215.out)⟩; have n4_ : Aside0 (w29.heap[gb216]? = some (.cells #[.int .i64 0, .slice none 0 0] 24 (0, 0))) := ⟨by rw [← hq_]; exact (pk BK216.out)⟩; have n5_ : Aside0 (w29.heap[gb224]? = some (.cells #[.int .i64 t217, u225001] 24 (0, 0))) := ⟨by rw [← hq_]; exact (pk BK224.out)⟩; have n6_ : Aside0 (Below w.heap.size w w29) := ⟨by rw [← hq_]; exact (bks HB.out)⟩; clear HO_225001 HO_6 BK214 BK215 BK216 BK224 HB hq_; have HO_225001 := n0_; have HO_6 := n1_; have BK214 := n2_; have BK215 := n3_; have BK216 := n4_; have BK224 := n5_; have HB := n6_; clear n0_ n1_ n2_ n3_ n4_ n5_ n6_))
       replace HO_6 := rd0 HO_6
       replace HO_225001 := rd0 HO_225001
       replace BK214 := bd BK214
       replace BK215 := bd BK215
       replace BK216 := bd BK216
       replace BK224 := bd BK224
       replace HB := hd0 HB
       obtain ⟨Ao31, co31, eo31⟩ := Kd.R_slice HO_225001.out
       (first | subst eo31 | (injection eo31 with f1_ f2_ f3_; have f4_ := f1_.symm; have f5_ := f3_.symm; clear f1_ f2_ f3_; subst f4_; subst f5_))
       have p228 : 0 ≤ (t227 : Int) := of_decide_eq_true (by first | (with_reducible assumption) | assumption)
       have q228 : t227 < (x225001_2.length : Int) := of_decide_eq_true (by first | (with_reducible assumption) | assumption)
       obtain ⟨ad228, e228, hx228_0⟩ := Kd.at_int (Kd.R_reads' HO_225001.out).2.2 t227 p228 q228
       cases e228
       replace p228 := eq_true p228
       replace q228 := eq_true q228
       have p229 : 0 ≤ (x7_1 : Int) := of_decide_eq_true (by first | (with_reducible assumption) | assumption)
       have q229 : x7_1 < (l0_1.length : Int) := of_decide_eq_true (by first | (with_reducible assumption) | assumption)
       obtain ⟨ad229, e229, hx229_0⟩ := Kd.at_int HR0_1.out x7_1 p229 q229
       have hw229_0 := hx229_0
       cases e229
       replace hx229_0 := (HB.out.cell (World.block_lt_of_cell? w _ hx229_0)).trans hx229_0
       replace p229 := eq_true p229
       replace q229 := eq_true q229
       have p230 : 0 ≤ (x8_2 : Int) := of_decide_eq_true (by first | (with_reducible assumption) | assumption)
       have q230 : x8_2 < (l1_1.length : Int) := of_decide_eq_true (by first | (with_reducible assumption) | assumption)
       obtain ⟨ad230, e230, hx230_0⟩ := Kd.at_int HR1_1.out x8_2 p230 q230
       have hw230_0 := hx230_0
       cases e230
       replace hx230_0 := (HB.out.cell (World.block_lt_of_cell? w _ hx230_0)).trans hx230_0
       replace p230 := eq_true p230
       replace q230 := eq_true q230
       have p28 : 0 ≤ (t227 : Int) := of_decide_eq_true (by first | (with_reducible assumption) | assumption)
       have q28 : (t227 : Int) < ((x225001_2.length : Int) : Int) := of_decide_eq_true (by first | (with_reducible assumption) | assumption)
       obtain ⟨go28, co28, eo28, gb28, gl28, cl28, HG28⟩ := Kd.R_form HO_225001.out (by omega)
       (first | cases eo28 | (injection eo28 with ea_ en_ ec_; (first | subst ea_ | (injection ea_ with ea_; subst ea_)); subst ec_; clear en_))
       have GB28 := Aside0.mk gb28
       have GG28 := Aside0.mk HG28
       clear gb28 gl28 HG28
       (first | simp only [add_plain] at hx228_0 | skip)
       obtain ⟨hx28_0, hf28_0⟩ := Kd.R_celln 0 HO_225001.out (t227 : Int) p28 q28
       replace p28 := eq_true p28
       replace q28 := eq_true q28
       have HP32 := Kd.R_putn HO_225001.out (t227 : Int) (wrap64 ((rd x225001_2 t227) + (wrap64 ((rd l0_1 x7_1) * (rd l1_1 x8_2)))))
       rw [← Ny231.out] at HP32
       have HQ32 := Aside0.mk HP32
       clear HP32
       refine start_ (n := 22) (S := fun w' => w'.cell? ⟨gb224, 0, none⟩ = some (.int .i64 t217) ∧ w'.cell? ⟨gb224, 1, none⟩ = some (.slice (some ⟨go28, 0, none⟩) x225001_2.length co31) ∧ w'.cell? ⟨gb214, 0, none⟩ = some (.int .i64 a0_0) ∧ w'.cell? ⟨gb214, 1, none⟩ = some (.slice (some ad229) l0_1.length c0_1) ∧ w'.cell? ⟨gb215, 0, none⟩ = some (.int .i64 a1_0) ∧ w'.cell? ⟨gb215, 1, none⟩ = some (.slice (some ad230) l1_1.length c1_1) ∧ w'.cell? ⟨go28, (t227).toNat, none⟩ = some (.int .i64 (rd x225001_2 t227)) ∧ w'.cell? (ad229.add (x7_1).toNat) = some (.int .i64 (rd l0_1 x7_1)) ∧ w'.cell? (ad230.add (x8_2).toNat) = some (.int .i64 (rd l1_1 x8_2))) (ds := [21]) #[false, false, false, false, false, false, false, false, false, false, false, false, false, false, false, false, false, false, false, false, false, false] (by kernel_rfl) rfl rfl ⟨(blk_cell BK224.out 0).trans rfl, (blk_cell BK224.out 1).trans rfl, (blk_cell BK214.out 0).trans rfl, (blk_cell BK214.out 1).trans rfl, (blk_cell BK215.out 0).trans rfl, (blk_cell BK215.out 1).trans rfl, hx228_0, ((HB.out.cell (World.block_lt_of_cell? w _ hw229_0)).trans hw229_0), ((HB.out.cell (World.block_lt_of_cell? w _ hw230_0)).trans hw230_0)⟩ (fun hHeld => ?_); refine with_tabW spec_l10Times.tab9 spec_l10Times.bits9 (fun HT_ HW_ => ?_)
       generalize w29.drew = w30 at HO_6 HO_225001 BK214 BK215 BK216 BK224 HB GG28 HQ32 hf28_0 hx228_0 hx229_0 hx230_0 hx28_0 hHeld ⊢
       refine pu 0 (some 42) HT_ ?_
       refine pu 2 (some 44) HT_ ?_
       refine pu 3 (some 45) HT_ ?_
       refine pu 5 (some 47) HT_ ?_
       refine pu 8 (some 50) HT_ ?_
       refine pu 10 (some 52) HT_ ?_
       refine pu 13 (some 55) HT_ ?_
       refine pu 15 (some 57) HT_ ?_
       refine tk 1 (some 43) HT_ HW_ hHeld ?_ (hy := by rintro w' ⟨s0, s1, s2, s3, s4, s5, s6, s7, s8⟩; (first | simp only [add_plain] at s0 s1 s2 s3 s4 s5 s6 s7 s8 | skip); go_simp; with_reducible rfl)
       refine tk 4 (some 46) HT_ HW_ hHeld ?_ (hy := by rintro w' ⟨s0, s1, s2, s3, s4, s5, s6, s7, s8⟩; (first | simp only [add_plain] at s0 s1 s2 s3 s4 s5 s6 s7 s8 | skip); go_simp; with_reducible rfl)
       refine pu 6 (some 48) HT_ ?_
       refine tk 7 (some 49) HT_ HW_ hHeld ?_ (hy := by rintro w' ⟨s0, s1, s2, s3, s4, s5, s6, s7, s8⟩; (first | simp only [add_plain] at s0 s1 s2 s3 s4 s5 s6 s7 s8 | skip); go_simp; with_reducible rfl)
       refine tk 9 (some 51) HT_ HW_ hHeld ?_ (hy := by rintro w' ⟨s0, s1, s2, s3, s4, s5, s6, s7, s8⟩; (first | simp only [add_plain] at s0 s1 s2 s3 s4 s5 s6 s7 s8 | skip); go_simp; with_reducible rfl)
       refine pu 11 (some 53) HT_ ?_
       refine tk 12 (some 54) HT_ HW_ hHeld ?_ (hy := by rintro w' ⟨s0, s1, s2, s3, s4, s5, s6, s7, s8⟩; go_simp; with_reducible rfl)
       refine tk 14 (some 56) HT_ HW_ hHeld ?_ (hy := by rintro w' ⟨s0, s1, s2, s3, s4, s5, s6, s7, s8⟩; go_simp; with_reducible rfl)
       refine pu 16 (some 58) HT_ ?_
       refine tk 17 (some 59) HT_ HW_ hHeld ?_ (hy := by rintro w' ⟨s0, s1, s2, s3, s4, s5, s6, s7, s8⟩; go_simp; with_reducible rfl)
       refine pu 18 (some 60) HT_ ?_
       refine pu 19 (some 61) HT_ ?_
       refine pu 20 (some 62) HT_ ?_
       refine la 21 none HT_ (fun K hK => ?_)
       refine skip_ (w1 := ?_) (by rfl) rfl ?_ ?_
       rotate_left
       ·go_simp
        rfl
       refine hK.out _ _ ?_
       clear hK K
       refine done_ (done_of HT_.out (by kernel_rfl)) ?_
       try go_wp2
       (try simp only [← hl6_2])
       go_roundg k2
       case measure => have := HK1.out; have := HK2.out; omega
       case rel => exact ⟨(x6_2), (wrap64 (x8_2 + 1)), (y231), (.slice (some ⟨go28, 0, none⟩) x225001_2.length co31), (by first | rfl | (simp; done) | (simp [*]; done)), H', ⟨by have := HK1.out; have := HK2.out; omega⟩, ⟨by (try simp only [hl6_2]); (with_reducible repeat (first | apply Kd.R_alloc | apply Kd.R_drewN | apply Kd.R_drew)); exact Kd.R_mono (Kd.R_far (p := ⟨go28, (t227 : Int).toNat, none⟩) (Kd.R_mono HO_6.out (fun k_ hk => (⟨hk, fun e_ => hk (by rw [e_]; rfl)⟩ : _ ∧ k_ ≠ go28))) (fun _ hk => hk.2) (.int .i64 (wrap64 ((rd x225001_2 t227) + (wrap64 ((rd l0_1 x7_1) * (rd l1_1 x8_2))))))) (fun _ hk => hk.1)⟩, ⟨by (try simp only [hl6_2]); (with_reducible repeat (first | apply Kd.R_alloc | apply Kd.R_drewN | apply Kd.R_drew)); exact HQ32.out⟩, ⟨by (try simp only [hl6_2]); (with_reducible repeat (first | refine blk_drewN ?_ _ | refine blk_drew ?_ | refine blk_alloc ?_ _)); refine blk_far ?_ (by have h_ := Kd.R_ne HO_225001.out BK214.out (by decide); intro e_; exact h_ (by rw [e_]; rfl)) _; (with_reducible repeat (first | refine blk_drewN ?_ _ | refine blk_drew ?_ | refine blk_alloc ?_ _)); exact BK214.out⟩, ⟨by (try simp only [hl6_2]); (with_reducible repeat (first | refine blk_drewN ?_ _ | refine blk_drew ?_ | refine blk_alloc ?_ _)); refine blk_far ?_ (by have h_ := Kd.R_ne HO_225001.out BK215.out (by decide); intro e_; exact h_ (by rw [e_]; rfl)) _; (with_reducible repeat (first | refine blk_drewN ?_ _ | refine blk_drew ?_ | refine blk_alloc ?_ _)); exact BK215.out⟩, ⟨by (try simp only [hl6_2]); (with_reducible repeat (first | refine blk_drewN ?_ _ | refine blk_drew ?_ | refine blk_alloc ?_ _)); refine blk_far ?_ (by have h_ := Kd.R_ne HO_225001.out BK216.out (by decide); intro e_; exact h_ (by rw [e_]; rfl)) _; (with_reducible repeat (first | refine blk_drewN ?_ _ | refine blk_drew ?_ | refine blk_alloc ?_ _)); exact BK216.out⟩, ⟨by (try simp only [hl6_2]); (with_reducible repeat (first | refine blk_drewN ?_ _ | refine blk_drew ?_ | refine blk_alloc ?_ _)); refine blk_far ?_ (by have h_ := Kd.R_ne HO_225001.out BK224.out (by decide); intro e_; exact h_ (by rw [e_]; rfl)) _; (with_reducible repeat (first | refine blk_drewN ?_ _ | refine blk_drew ?_ | refine blk_alloc ?_ _)); exact BK224.out⟩, ⟨by repeat (first | (with_reducible first | exact HB.out | apply below_alloc | apply pw_below_drewN | apply below_drew1 | refine below_set ?_ GB28.out | refine below_set ?_ GE214.out | refine below_set ?_ GE215.out | refine below_set ?_ GE216.out | refine below_set ?_ GE224.out) | exact HB.out)⟩⟩
      ·rw [if_neg c18] at H
       have c18b0 : decide (x8_2 < (x6_2.length : Int)) = false := decide_eq_false c18
       clear c18
       have H' := Aside0.mk H
       clear H
       go_wp2
       (try simp only [← hl6_2])
       go_roundg k2
       case measure => have := HK1.out; have := HK2.out; omega
       case rel => exact ⟨(x6_2), (wrap64 (x7_1 + 1)), (x225001_2), (u225001), (by first | rfl | (simp; done) | (simp [*]; done)), H', ⟨by have := HK1.out; have := HK2.out; omega⟩, ⟨by (try simp only [hl6_2]); (with_reducible repeat (first | apply Kd.R_alloc | apply Kd.R_drewN | apply Kd.R_drew)); exact HO_6.out⟩, ⟨by (try simp only [hl6_2]); (with_reducible repeat (first | apply Kd.R_alloc | apply Kd.R_drewN | apply Kd.R_drew)); exact HO_225001.out⟩, ⟨by (try simp only [hl6_2]); (with_reducible repeat (first | refine blk_drewN ?_ _ | refine blk_drew ?_ | refine blk_alloc ?_ _)); exact BK214.out⟩, ⟨by (try simp only [hl6_2]); (with_reducible repeat (first | refine blk_drewN ?_ _ | refine blk_drew ?_ | refine blk_alloc ?_ _)); exact BK215.out⟩, ⟨by (try simp only [hl6_2]); (with_reducible repeat (first | refine blk_drewN ?_ _ | refine blk_drew ?_ | refine blk_alloc ?_ _)); exact BK216.out⟩, ⟨by (try simp only [hl6_2]); (with_reducible repeat (first | refine blk_drewN ?_ _ | refine blk_drew ?_ | refine blk_alloc ?_ _)); exact BK224.out⟩, ⟨bks HB.out⟩⟩
   ·rw [if_neg c16] at H
    have c16b0 : decide (x7_1 < (x6_1.length : Int)) = false := decide_eq_false c16
    clear c16
    simp only [Option.some.injEq, Prod.mk.injEq] at H
    obtain ⟨rfl, rfl⟩ := H
    obtain ⟨Ao33, co33, eo33⟩ := Kd.R_slice HO_6.out
    subst eo33
    have hnb34 := NB224_214.out
    have hnc34 := NB214_224.out
    have hnb35 := NB224_215.out
    have hnc35 := NB215_224.out
    have hnb36 := NB224_216.out
    have hnc36 := NB216_224.out
    have hcz37_0 : wr.cell? ⟨gb224, 0, none⟩ = some (.int .i64 t217) := (blk_cell BK224.out 0).trans rfl
    have hcz37_1 : wr.cell? ⟨gb224, 1, none⟩ = some (u225001) := (blk_cell BK224.out 1).trans rfl
    have hfz37_0 := blk_frozen BK224.out 0
    have hfz37_1 := blk_frozen BK224.out 1
    have hnb38 := NB216_214.out
    have hnc38 := NB214_216.out
    have hnb39 := NB216_215.out
    have hnc39 := NB215_216.out
    have hcz40_0 : wr.cell? ⟨gb216, 0, none⟩ = some (.int .i64 0) := (blk_cell BK216.out 0).trans rfl
    have hcz40_1 : wr.cell? ⟨gb216, 1, none⟩ = some (.slice none 0 0) := (blk_cell BK216.out 1).trans rfl
    have hfz40_0 := blk_frozen BK216.out 0
    have hfz40_1 := blk_frozen BK216.out 1
    obtain ⟨Ao41, co41, eo41⟩ := Kd.R_slice HO_225001.out
    subst eo41
    go_wp2
    refine bodyPost_ret (results_cell_row rfl _ _ gb216 24 #[.int .i64 t217, .slice Ao41 x225001_1.length co41] (0, 0) _ rfl (by (with_reducible repeat (first | refine blk_drewN ?_ _ | refine blk_drew ?_ | refine blk_alloc ?_ _)); refine blk_put (cs := #[.int .i64 t217, .slice none 0 0]) ?_ 1 _ rfl; (with_reducible repeat (first | refine blk_drewN ?_ _ | refine blk_drew ?_ | refine blk_alloc ?_ _)); refine blk_put (cs := #[.int .i64 0, .slice none 0 0]) ?_ 0 _ rfl; (with_reducible repeat (first | refine blk_drewN ?_ _ | refine blk_drew ?_ | refine blk_alloc ?_ _)); exact BK216.out) Try.underlying24 rfl (by kernel_rfl)) rfl ?_
    exact ⟨_, by first | rfl | (simp [errW_none, errW_some] <;> rfl) | (simp [*, errW_none, errW_some] <;> rfl), by (with_reducible repeat (first | apply Kd.R_alloc | apply Kd.R_drewN | apply Kd.R_drew)); exact Kd.R_mono (Kd.R_far (p := ⟨gb216, 1, none⟩) (Kd.R_far (p := ⟨gb216, 0, none⟩) (Kd.R_types HO_225001.out BK216.out (by decide)) (fun _ hk => hk.2) (.int .i64 t217)) (fun _ hk => hk.2) (.slice Ao41 x225001_1.length co41)) (fun _ hk => trivial), bks HB.out⟩

/-! ### spec_MultiplyRings: function 27 -/
mutual
def spec_MultiplyRings.l0 : Nat → Int → Int → Int → List Int → Int → List Int → Option (Int × List Int × Int)
 | 0, _, _, _, _, _, _ => none
 | k + 1, x6, x7, x233000, x233001, x234000, x234001 => if x7 < (x233001.length : Int) then (spec_MultiplyRings.j1 k x6 x7 (x6 == 0) x233000 x233001 x234000 x234001) else (spec_MultiplyRings.j1 k x6 x7 false x233000 x233001 x234000 x234001)
def spec_MultiplyRings.j1 : Nat → Int → Int → Bool → Int → List Int → Int → List Int → Option (Int × List Int × Int)
 | 0, _, _, _, _, _, _, _ => none
 | k + 1, x6, x7, x21, x233000, x233001, x234000, x234001 => if x21 = true then (if 0 ≤ x7 then (if x7 < (x233001.length : Int) then ((spec_l01In.f (rd x233001 x7) (-100000) 100000).bind fun t237 => (if t237 = true then (if x7 < (x234001.length : Int) then ((spec_l01In.f (rd x234001 x7) (-100000) 100000).bind fun t239 => (if t239 = true then (spec_MultiplyRings.l0 k x6 (wrap64 (x7 + 1)) x233000 x233001 x234000 x234001) else (spec_MultiplyRings.l0 k 2 (wrap64 (x7 + 1)) x233000 x233001 x234000 x234001))) else (none)) else (spec_MultiplyRings.l0 k 2 (wrap64 (x7 + 1)) x233000 x233001 x234000 x234001))) else (none)) else (none)) else (if x6 = 0 then ((spec_l10Times.f k x233000 x233001 x234000 x234001).bind fun bt240 => ((spec_l10Told.f k bt240.1 bt240.2).bind fun bt244 => (some (bt244.1, bt244.2.1, bt244.2.2)))) else (some (0, ([] : List Int), x6)))
end
def spec_MultiplyRings.f (k : Nat) (a0_0 : Int) (l0_1 : List Int) (a1_0 : Int) (l1_1 : List Int) : Option (Int × List Int × Int) := (spec_l10Like.f k a0_0 l0_1 a1_0 l1_1).bind fun t235 => (spec_MultiplyRings.l0 k t235 0 a0_0 l0_1 a1_0 l1_1)
theorem spec_MultiplyRings.mono_l : ∀ k, (∀ y0 y1 y2 y3 y4 y5, LeO (spec_MultiplyRings.l0 k y0 y1 y2 y3 y4 y5) (spec_MultiplyRings.l0 (k + 1) y0 y1 y2 y3 y4 y5)) ∧ (∀ y0 y1 y2 y3 y4 y5 y6, LeO (spec_MultiplyRings.j1 k y0 y1 y2 y3 y4 y5 y6) (spec_MultiplyRings.j1 (k + 1) y0 y1 y2 y3 y4 y5 y6))
 | 0 => ⟨fun _ _ _ _ _ _ r h => by simp [spec_MultiplyRings.l0] at h, fun _ _ _ _ _ _ _ r h => by simp [spec_MultiplyRings.j1] at h⟩
 | k + 1 => by
  obtain ⟨ih0, ih1⟩ := spec_MultiplyRings.mono_l k
  refine ⟨?_, ?_⟩
  ·intro y0 y1 y2 y3 y4 y5
   unfold spec_MultiplyRings.l0
   repeat' first | (with_reducible first | exact ih0 _ _ _ _ _ _ | exact ih1 _ _ _ _ _ _ _ | exact spec_l10Like.mono _ _ _ _ _ | exact spec_l10Times.mono _ _ _ _ _ | exact spec_l10Told.mono _ _ _ | exact LeO.refl _ | exact LeO.none _ | refine LeO.ite ?_ ?_ | refine LeO.bind ?_ (fun _ => ?_)) | exact ih0 _ _ _ _ _ _ | exact ih1 _ _ _ _ _ _ _ | exact LeO.none _ | refine LeO.ite ?_ ?_ | refine LeO.bind ?_ (fun _ => ?_)
  ·intro y0 y1 y2 y3 y4 y5 y6
   unfold spec_MultiplyRings.j1
   repeat' first | (with_reducible first | exact ih0 _ _ _ _ _ _ | exact ih1 _ _ _ _ _ _ _ | exact spec_l10Like.mono _ _ _ _ _ | exact spec_l10Times.mono _ _ _ _ _ | exact spec_l10Told.mono _ _ _ | exact LeO.refl _ | exact LeO.none _ | refine LeO.ite ?_ ?_ | refine LeO.bind ?_ (fun _ => ?_)) | exact ih0 _ _ _ _ _ _ | exact ih1 _ _ _ _ _ _ _ | exact LeO.none _ | refine LeO.ite ?_ ?_ | refine LeO.bind ?_ (fun _ => ?_)
theorem spec_MultiplyRings.mono : ∀ a0 a1 a2 a3 k, LeO (spec_MultiplyRings.f k a0 a1 a2 a3) (spec_MultiplyRings.f (k + 1) a0 a1 a2 a3) := by
 intro a0 a1 a2 a3 k
 obtain ⟨ih0, ih1⟩ := spec_MultiplyRings.mono_l k
 unfold spec_MultiplyRings.f
 repeat' first | (with_reducible first | exact ih0 _ _ _ _ _ _ | exact ih1 _ _ _ _ _ _ _ | exact spec_l10Like.mono _ _ _ _ _ | exact spec_l10Times.mono _ _ _ _ _ | exact spec_l10Told.mono _ _ _ | exact LeO.refl _ | exact LeO.none _ | refine LeO.ite ?_ ?_ | refine LeO.bind ?_ (fun _ => ?_)) | exact ih0 _ _ _ _ _ _ | exact ih1 _ _ _ _ _ _ _ | exact LeO.none _ | refine LeO.ite ?_ ?_ | refine LeO.bind ?_ (fun _ => ?_)
set_option maxHeartbeats 8000000 in
set_option maxRecDepth 100000 in
theorem spec_MultiplyRings.calls (k : Nat) (a0_0 : Int) (A0_1 : Option Addr) (c0_1 : Nat) (l0_1 : List Int) (a1_0 : Int) (A1_1 : Option Addr) (c1_1 : Nat) (l1_1 : List Int) (r1 : Int) (r2 : List Int) (r3 : Int) (w : World) (hr0_1 : Kd.C (Kd.int .i64) w A0_1 l0_1.length l0_1) (hc0_1 : l0_1.length ≤ c0_1) (hr1_1 : Kd.C (Kd.int .i64) w A1_1 l1_1.length l1_1) (hc1_1 : l1_1.length ≤ c1_1) (h : spec_MultiplyRings.f k a0_0 l0_1 a1_0 l1_1 = some (r1, r2, r3)) :
  Calls Try.prog 27 #[.agg #[.int .i64 a0_0, .slice A0_1 l0_1.length c0_1], .agg #[.int .i64 a1_0, .slice A1_1 l1_1.length c1_1]] w fun e w' => ∃ v1_ : Value, e = .returned (.tuple #[.agg #[.int .i64 r1, v1_], .int .i64 r3]) ∧ Kd.R (Kd.int .i64) 2 w' w.heap.size (fun _ => True) v1_ r2 ∧ Below w.heap.size w w' := by
 have hu24 := Try.underlying24
 have HR0_1 := Aside0.mk hr0_1
 have HC0_1 := Aside0.mk hc0_1
 clear hr0_1 hc0_1
 have HR1_1 := Aside0.mk hr1_1
 have HC1_1 := Aside0.mk hc1_1
 clear hr1_1 hc1_1
 have HB := Aside0.mk (Below.refl w.heap.size w)
 have H : ((spec_l10Like.f k a0_0 l0_1 a1_0 l1_1).bind fun t235 => (spec_MultiplyRings.l0 k t235 0 a0_0 l0_1 a1_0 l1_1)) = some (r1, r2, r3) := h
 clear h
 replace H := Option.bind_eq_some_iff.mp H
 obtain ⟨t235, A30, H⟩ := H
 try dsimp only at H
 have A3 := Aside0.mk A30
 clear A30
 have H' := Aside0.mk H
 clear H
 go_enter Try.func27, Try.ntmps27
 go_wp2_with (first | ((with_reducible refine gate_dst (N := 2) rfl ?_); refine bx 2 #[.int .i64 a0_0, .slice A0_1 l0_1.length c0_1] 24 (fun gb232 hg w4 hbox hb => ?_); have BK232 := Aside0.mk hbox; have GW232 := ge HB hg; have GE232 := GW232; replace HB := hs HB hb; clear hb hbox hg) | ((with_reducible refine gate_dst (N := 3) rfl ?_); refine bx 3 #[.int .i64 a1_0, .slice A1_1 l1_1.length c1_1] 24 (fun gb233 hg w5 hbox hb => ?_); have BK233 := Aside0.mk hbox; have GW233 := ge HB hg; have GE233 := GW233; obtain ⟨NB232_233, NB233_232⟩ := nb BK232 hg; replace BK232 := bb BK232 hb; replace HB := hs HB hb; clear hb hbox hg) | ((with_reducible refine gate_dst (N := 4) rfl ?_); refine bx 4 #[.int .i64 0, .slice none 0 0] 24 (fun gb234 hg w6 hbox hb => ?_); have BK234 := Aside0.mk hbox; have GW234 := ge HB hg; have GE234 := GW234; obtain ⟨NB232_234, NB234_232⟩ := nb BK232 hg; obtain ⟨NB233_234, NB234_233⟩ := nb BK233 hg; replace BK232 := bb BK232 hb; replace BK233 := bb BK233 hb; replace HB := hs HB hb; clear hb hbox hg; have hnb7 := NB232_233.out; have hnc7 := NB233_232.out; have hnb8 := NB232_234.out; have hnc8 := NB234_232.out; have hcz9_0 : w6.cell? ⟨gb232, 0, none⟩ = some (.int .i64 a0_0) := (blk_cell BK232.out 0).trans rfl; have hcz9_1 : w6.cell? ⟨gb232, 1, none⟩ = some (.slice A0_1 l0_1.length c0_1) := (blk_cell BK232.out 1).trans rfl; have hfz9_0 := blk_frozen BK232.out 0; have hfz9_1 := blk_frozen BK232.out 1; have hnb10 := NB233_234.out; have hnc10 := NB234_233.out; have hcz11_0 : w6.cell? ⟨gb233, 0, none⟩ = some (.int .i64 a1_0) := (blk_cell BK233.out 0).trans rfl; have hcz11_1 : w6.cell? ⟨gb233, 1, none⟩ = some (.slice A1_1 l1_1.length c1_1) := (blk_cell BK233.out 1).trans rfl; have hfz11_0 := blk_frozen BK233.out 0; have hfz11_1 := blk_frozen BK233.out 1) | ((with_reducible refine gate_callee (f := 74) rfl ?_); refine gl (some 12) Try.func74 #[.agg #[.int .i64 a0_0, .slice A0_1 l0_1.length c0_1], .agg #[.int .i64 a1_0, .slice A1_1 l1_1.length c1_1]] ?_; (with_reducible refine (spec_l10Like.calls k a0_0 _ _ l0_1 a1_0 _ _ l1_1 t235 _ ?side1 ?side2 ?side3 ?side4 A3.out).mono ?_); (case side1 => repeat (first | exact (Kd.C_below HR0_1.out HB.out) | (with_reducible refine Kd.C_alloc ?_ _) | (with_reducible refine Kd.C_drewN ?_ _) | (with_reducible refine Kd.C_drew ?_))); (case side2 => exact HC0_1.out); (case side3 => repeat (first | exact (Kd.C_below HR1_1.out HB.out) | (with_reducible refine Kd.C_alloc ?_ _) | (with_reducible refine Kd.C_drewN ?_ _) | (with_reducible refine Kd.C_drew ?_))); (case side4 => exact HC1_1.out); rintro e w12 ⟨rfl, hb⟩; refine ⟨_, rfl, ?_⟩; replace BK232 := bb BK232 hb; replace BK233 := bb BK233 hb; replace BK234 := bb BK234 hb; replace HB := hs HB hb; (try clear hb)))
 go_loopg [6, 7] k (fun kq v6 v7 w' => ∃ (x6_1 : Int) (x7_1 : Int), v6 = .int .i64 x6_1 ∧ v7 = .int .i64 x7_1 ∧ Aside0 (spec_MultiplyRings.l0 kq x6_1 x7_1 a0_0 l0_1 a1_0 l1_1 = some (r1, r2, r3)) ∧ Aside0 (kq ≤ k) ∧ Aside0 (w'.heap[gb232]? = some (.cells #[.int .i64 a0_0, (.slice A0_1 l0_1.length c0_1)] 24 (0, 0))) ∧ Aside0 (w'.heap[gb233]? = some (.cells #[.int .i64 a1_0, (.slice A1_1 l1_1.length c1_1)] 24 (0, 0))) ∧ Aside0 (w'.heap[gb234]? = some (.cells #[.int .i64 0, (.slice none 0 0)] 24 (0, 0))) ∧ Aside0 (Below w.heap.size w w'))
 case atStart => exact ⟨(t235), (0), (by first | rfl | (simp; done) | (simp [*]; done)), (by first | rfl | (simp; done) | (simp [*]; done)), H', ⟨Nat.le_refl _⟩, ⟨pk BK232.out⟩, ⟨pk BK233.out⟩, ⟨pk BK234.out⟩, ⟨bks HB.out⟩⟩
 case round =>
  clear H'
  try clear c1; try clear c2; try clear p2; try clear c7; try clear c8; try clear c10; try clear hcz11_0; try clear hcz11_1; try clear hcz9_0; try clear hcz9_1; try clear hfz11_0; try clear hfz11_1; try clear hfz9_0; try clear hfz9_1
  obtain ⟨x6_1, x7_1, rfl, rfl, HA, HK1, BK232, BK233, BK234, HB⟩ := hrel
  cases gk with
  | zero => exact absurd HA.out (by simp [spec_MultiplyRings.l0])
  | succ k1 =>
   have H := HA.out
   clear HA
   simp only [spec_MultiplyRings.l0] at H
   have HC13 := Aside0.mk H
   clear H
   go_upto_region 3 with (fail)
   go_cut [21] (fun v21 wc => ∃ (kq : Nat) (x21_12 : Bool), v21 = .bool x21_12 ∧ Aside0 (spec_MultiplyRings.j1 kq x6_1 x7_1 x21_12 a0_0 l0_1 a1_0 l1_1 = some (r1, r2, r3)) ∧ Aside0 (kq ≤ k1) ∧ Aside0 (wc.heap[gb232]? = some (.cells #[.int .i64 a0_0, (.slice A0_1 l0_1.length c0_1)] 24 (0, 0))) ∧ Aside0 (wc.heap[gb233]? = some (.cells #[.int .i64 a1_0, (.slice A1_1 l1_1.length c1_1)] 24 (0, 0))) ∧ Aside0 (wc.heap[gb234]? = some (.cells #[.int .i64 0, (.slice none 0 0)] 24 (0, 0))) ∧ Aside0 (Below w.heap.size w wc))
   case first =>
    have H := HC13.out
    clear HC13
    by_cases c14 : x7_1 < (l0_1.length : Int)
    ·rw [if_pos c14] at H
     have c14b0 : decide (x7_1 < (l0_1.length : Int)) = true := decide_eq_true c14
     clear c14
     (first | rw [c14b0] | (simp only [i64_w, i32_w]; rw [c14b0]) | skip)
     have H' := Aside0.mk H
     clear H
     have hnb15 := NB232_233.out
     have hnc15 := NB233_232.out
     have hnb16 := NB232_234.out
     have hnc16 := NB234_232.out
     have hcz17_0 : wr.cell? ⟨gb232, 0, none⟩ = some (.int .i64 a0_0) := (blk_cell BK232.out 0).trans rfl
     have hcz17_1 : wr.cell? ⟨gb232, 1, none⟩ = some (.slice A0_1 l0_1.length c0_1) := (blk_cell BK232.out 1).trans rfl
     have hfz17_0 := blk_frozen BK232.out 0
     have hfz17_1 := blk_frozen BK232.out 1
     go_wp2
     go_meet
     case rel => exact ⟨_, ((x6_1 == 0)), (by first | rfl | (simp; done) | (simp [*]; done)), H', ⟨by have := HK1.out; first | omega | exact Nat.le_refl _⟩, ⟨pk BK232.out⟩, ⟨pk BK233.out⟩, ⟨pk BK234.out⟩, ⟨bks HB.out⟩⟩
    ·rw [if_neg c14] at H
     have c14b0 : decide (x7_1 < (l0_1.length : Int)) = false := decide_eq_false c14
     clear c14
     (first | rw [c14b0] | (simp only [i64_w, i32_w]; rw [c14b0]) | skip)
     have H' := Aside0.mk H
     clear H
     have hnb18 := NB232_233.out
     have hnc18 := NB233_232.out
     have hnb19 := NB232_234.out
     have hnc19 := NB234_232.out
     have hcz20_0 : wr.cell? ⟨gb232, 0, none⟩ = some (.int .i64 a0_0) := (blk_cell BK232.out 0).trans rfl
     have hcz20_1 : wr.cell? ⟨gb232, 1, none⟩ = some (.slice A0_1 l0_1.length c0_1) := (blk_cell BK232.out 1).trans rfl
     have hfz20_0 := blk_frozen BK232.out 0
     have hfz20_1 := blk_frozen BK232.out 1
     go_wp2
     go_meet
     case rel => exact ⟨_, (false), (by first | rfl | (simp; done) | (simp [*]; done)), H', ⟨by have := HK1.out; first | omega | exact Nat.le_refl _⟩, ⟨pk BK232.out⟩, ⟨pk BK233.out⟩, ⟨pk BK234.out⟩, ⟨bks HB.out⟩⟩
   case rest =>
    clear HC13
    try clear c1; try clear c2; try clear p2; try clear c7; try clear c8; try clear c10; try clear c14; try clear c14b0; try clear c15; try clear c16; try clear c18; try clear c19; try clear hcz11_0; try clear hcz11_1; try clear hcz17_0; try clear hcz17_1; try clear hcz20_0; try clear hcz20_1; try clear hcz9_0; try clear hcz9_1; try clear hfz11_0; try clear hfz11_1; try clear hfz17_0; try clear hfz17_1; try clear hfz20_0; try clear hfz20_1; try clear hfz9_0; try clear hfz9_1; try clear p2
    obtain ⟨kq, x21_12, rfl, HA, HJ12, BK232, BK233, BK234, HB⟩ := hcut
    cases kq with
    | zero => exact absurd HA.out (by simp [spec_MultiplyRings.j1])
    | succ kj12 =>
     have H := HA.out
     clear HA
     simp only [spec_MultiplyRings.j1] at H
     by_cases c21 : x21_12 = true
     ·subst c21
      have H1 : (if 0 ≤ x7_1 then (if x7_1 < (l0_1.length : Int) then ((spec_l01In.f (rd l0_1 x7_1) (-100000) 100000).bind fun t237 => (if t237 = true then (if x7_1 < (l1_1.length : Int) then ((spec_l01In.f (rd l1_1 x7_1) (-100000) 100000).bind fun t239 => (if t239 = true then (spec_MultiplyRings.l0 kj12 x6_1 (wrap64 (x7_1 + 1)) a0_0 l0_1 a1_0 l1_1) else (spec_MultiplyRings.l0 kj12 2 (wrap64 (x7_1 + 1)) a0_0 l0_1 a1_0 l1_1))) else (none)) else (spec_MultiplyRings.l0 kj12 2 (wrap64 (x7_1 + 1)) a0_0 l0_1 a1_0 l1_1))) else (none)) else (none)) = some (r1, r2, r3) := by rw [if_pos rfl] at H; exact H
      clear H
      have H := H1
      clear H1
      by_cases c22 : 0 ≤ x7_1
      rotate_left
      ·rw [if_neg c22] at H; exact absurd H (by simp)
      rw [if_pos c22] at H
      have c22b0 : decide (0 ≤ x7_1) = true := decide_eq_true c22
      clear c22
      by_cases c23 : x7_1 < (l0_1.length : Int)
      rotate_left
      ·rw [if_neg c23] at H; exact absurd H (by simp)
      rw [if_pos c23] at H
      have c23b0 : decide (x7_1 < (l0_1.length : Int)) = true := decide_eq_true c23
      clear c23
      replace H := Option.bind_eq_some_iff.mp H
      obtain ⟨t237, A240, H⟩ := H
      try dsimp only at H
      have A24 := Aside0.mk A240
      clear A240
      by_cases c25 : t237 = true
      ·subst c25
       have H1 : (if x7_1 < (l1_1.length : Int) then ((spec_l01In.f (rd l1_1 x7_1) (-100000) 100000).bind fun t239 => (if t239 = true then (spec_MultiplyRings.l0 kj12 x6_1 (wrap64 (x7_1 + 1)) a0_0 l0_1 a1_0 l1_1) else (spec_MultiplyRings.l0 kj12 2 (wrap64 (x7_1 + 1)) a0_0 l0_1 a1_0 l1_1))) else (none)) = some (r1, r2, r3) := by rw [if_pos rfl] at H; exact H
       clear H
       have H := H1
       clear H1
       by_cases c26 : x7_1 < (l1_1.length : Int)
       rotate_left
       ·rw [if_neg c26] at H; exact absurd H (by simp)
       rw [if_pos c26] at H
       have c26b0 : decide (x7_1 < (l1_1.length : Int)) = true := decide_eq_true c26
       clear c26
       replace H := Option.bind_eq_some_iff.mp H
       obtain ⟨t239, A270, H⟩ := H
       try dsimp only at H
       have A27 := Aside0.mk A270
       clear A270
       by_cases c28 : t239 = true
       ·subst c28
        have H1 : (spec_MultiplyRings.l0 kj12 x6_1 (wrap64 (x7_1 + 1)) a0_0 l0_1 a1_0 l1_1) = some (r1, r2, r3) := by rw [if_pos rfl] at H; exact H
        clear H
        have H := H1
        clear H1
        have H' := Aside0.mk H
        clear H
        have hnb29 := NB232_233.out
        have hnc29 := NB233_232.out
        have hnb30 := NB232_234.out
        have hnc30 := NB234_232.out
        have hcz31_0 : wc.cell? ⟨gb232, 0, none⟩ = some (.int .i64 a0_0) := (blk_cell BK232.out 0).trans rfl
        have hcz31_1 : wc.cell? ⟨gb232, 1, none⟩ = some (.slice A0_1 l0_1.length c0_1) := (blk_cell BK232.out 1).trans rfl
        have hfz31_0 := blk_frozen BK232.out 0
        have hfz31_1 := blk_frozen BK232.out 1
        have p236 : 0 ≤ (x7_1 : Int) := of_decide_eq_true (by first | (with_reducible assumption) | assumption)
        have q236 : x7_1 < (l0_1.length : Int) := of_decide_eq_true (by first | (with_reducible assumption) | assumption)
        obtain ⟨ad236, e236, hx236_0⟩ := Kd.at_int HR0_1.out x7_1 p236 q236
        cases e236
        replace hx236_0 := (HB.out.cell (World.block_lt_of_cell? w _ hx236_0)).trans hx236_0
        replace p236 := eq_true p236
        replace q236 := eq_true q236
        go_wp2_with (first | ((with_reducible refine gate_callee (f := 53) rfl ?_); refine gl (some 29) Try.func53 #[.int .i64 (rd l0_1 x7_1), .int .i64 (-100000), .int .i64 100000] ?_; (with_reducible refine (spec_l01In.calls (rd l0_1 x7_1) (-100000) 100000 true _ A24.out).mono ?_); rintro e w' ⟨rfl, ⟨nd, rfl⟩⟩; refine ⟨_, rfl, ?_⟩; have hnb32 := NB233_234.out; have hnc32 := NB234_233.out; have hcz33_0 : wc.cell? ⟨gb233, 0, none⟩ = some (.int .i64 a1_0) := (blk_cell BK233.out 0).trans rfl; have hcz33_1 : wc.cell? ⟨gb233, 1, none⟩ = some (.slice A1_1 l1_1.length c1_1) := (blk_cell BK233.out 1).trans rfl; have hfz33_0 := blk_frozen BK233.out 0; have hfz33_1 := blk_frozen BK233.out 1; have p238 : 0 ≤ (x7_1 : Int) := of_decide_eq_true (by first | (with_reducible assumption) | assumption); have q238 : x7_1 < (l1_1.length : Int) := of_decide_eq_true (by first | (with_reducible assumption) | assumption); obtain ⟨ad238, e238, hx238_0⟩ := Kd.at_int HR1_1.out x7_1 p238 q238; cases e238; replace hx238_0 := (HB.out.cell (World.block_lt_of_cell? w _ hx238_0)).trans hx238_0; replace p238 := eq_true p238; replace q238 := eq_true q238) | (go_at_call 53; (with_reducible refine (spec_l01In.calls (rd l1_1 x7_1) (-100000) 100000 true _ A27.out).mono ?_); rintro e w' ⟨rfl, ⟨nd, rfl⟩⟩))
        go_roundg kj12
        case measure => have := HK1.out; have := HJ12.out; omega
        case rel => exact ⟨(x6_1), (wrap64 (x7_1 + 1)), (by first | rfl | (simp; done) | (simp [*]; done)), (by first | rfl | (simp; done) | (simp [*]; done)), H', ⟨by have := HK1.out; have := HJ12.out; omega⟩, ⟨pk BK232.out⟩, ⟨pk BK233.out⟩, ⟨pk BK234.out⟩, ⟨bks HB.out⟩⟩
       ·replace c28 := Bool.eq_false_iff.mpr c28
        subst c28
        have H1 : (spec_MultiplyRings.l0 kj12 2 (wrap64 (x7_1 + 1)) a0_0 l0_1 a1_0 l1_1) = some (r1, r2, r3) := by rw [if_neg (show ¬ (false = true) by decide)] at H; exact H
        clear H
        have H := H1
        clear H1
        have H' := Aside0.mk H
        clear H
        have hnb34 := NB232_233.out
        have hnc34 := NB233_232.out
        have hnb35 := NB232_234.out
        have hnc35 := NB234_232.out
        have hcz36_0 : wc.cell? ⟨gb232, 0, none⟩ = some (.int .i64 a0_0) := (blk_cell BK232.out 0).trans rfl
        have hcz36_1 : wc.cell? ⟨gb232, 1, none⟩ = some (.slice A0_1 l0_1.length c0_1) := (blk_cell BK232.out 1).trans rfl
        have hfz36_0 := blk_frozen BK232.out 0
        have hfz36_1 := blk_frozen BK232.out 1
        have p236 : 0 ≤ (x7_1 : Int) := of_decide_eq_true (by first | (with_reducible assumption) | assumption)
        have q236 : x7_1 < (l0_1.length : Int) := of_decide_eq_true (by first | (with_reducible assumption) | assumption)
        obtain ⟨ad236, e236, hx236_0⟩ := Kd.at_int HR0_1.out x7_1 p236 q236
        cases e236
        replace hx236_0 := (HB.out.cell (World.block_lt_of_cell? w _ hx236_0)).trans hx236_0
        replace p236 := eq_true p236
        replace q236 := eq_true q236
        go_wp2_with (first | ((with_reducible refine gate_callee (f := 53) rfl ?_); refine gl (some 29) Try.func53 #[.int .i64 (rd l0_1 x7_1), .int .i64 (-100000), .int .i64 100000] ?_; (with_reducible refine (spec_l01In.calls (rd l0_1 x7_1) (-100000) 100000 true _ A24.out).mono ?_); rintro e w' ⟨rfl, ⟨nd, rfl⟩⟩; refine ⟨_, rfl, ?_⟩; have hnb37 := NB233_234.out; have hnc37 := NB234_233.out; have hcz38_0 : wc.cell? ⟨gb233, 0, none⟩ = some (.int .i64 a1_0) := (blk_cell BK233.out 0).trans rfl; have hcz38_1 : wc.cell? ⟨gb233, 1, none⟩ = some (.slice A1_1 l1_1.length c1_1) := (blk_cell BK233.out 1).trans rfl; have hfz38_0 := blk_frozen BK233.out 0; have hfz38_1 := blk_frozen BK233.out 1; have p238 : 0 ≤ (x7_1 : Int) := of_decide_eq_true (by first | (with_reducible assumption) | assumption); have q238 : x7_1 < (l1_1.length : Int) := of_decide_eq_true (by first | (with_reducible assumption) | assumption); obtain ⟨ad238, e238, hx238_0⟩ := Kd.at_int HR1_1.out x7_1 p238 q238; cases e238; replace hx238_0 := (HB.out.cell (World.block_lt_of_cell? w _ hx238_0)).trans hx238_0; replace p238 := eq_true p238; replace q238 := eq_true q238) | (go_at_call 53; (with_reducible refine (spec_l01In.calls (rd l1_1 x7_1) (-100000) 100000 false _ A27.out).mono ?_); rintro e w' ⟨rfl, ⟨nd, rfl⟩⟩))
        go_roundg kj12
        case measure => have := HK1.out; have := HJ12.out; omega
        case rel => exact ⟨(2), (wrap64 (x7_1 + 1)), (by first | rfl | (simp; done) | (simp [*]; done)), (by first | rfl | (simp; done) | (simp [*]; done)), H', ⟨by have := HK1.out; have := HJ12.out; omega⟩, ⟨pk BK232.out⟩, ⟨pk BK233.out⟩, ⟨pk BK234.out⟩, ⟨bks HB.out⟩⟩
      ·replace c25 := Bool.eq_false_iff.mpr c25
       subst c25
       have H1 : (spec_MultiplyRings.l0 kj12 2 (wrap64 (x7_1 + 1)) a0_0 l0_1 a1_0 l1_1) = some (r1, r2, r3) := by rw [if_neg (show ¬ (false = true) by decide)] at H; exact H
       clear H
       have H := H1
       clear H1
       have H' := Aside0.mk H
       clear H
       have hnb39 := NB232_233.out
       have hnc39 := NB233_232.out
       have hnb40 := NB232_234.out
       have hnc40 := NB234_232.out
       have hcz41_0 : wc.cell? ⟨gb232, 0, none⟩ = some (.int .i64 a0_0) := (blk_cell BK232.out 0).trans rfl
       have hcz41_1 : wc.cell? ⟨gb232, 1, none⟩ = some (.slice A0_1 l0_1.length c0_1) := (blk_cell BK232.out 1).trans rfl
       have hfz41_0 := blk_frozen BK232.out 0
       have hfz41_1 := blk_frozen BK232.out 1
       have p236 : 0 ≤ (x7_1 : Int) := of_decide_eq_true (by first | (with_reducible assumption) | assumption)
       have q236 : x7_1 < (l0_1.length : Int) := of_decide_eq_true (by first | (with_reducible assumption) | assumption)
       obtain ⟨ad236, e236, hx236_0⟩ := Kd.at_int HR0_1.out x7_1 p236 q236
       cases e236
       replace hx236_0 := (HB.out.cell (World.block_lt_of_cell? w _ hx236_0)).trans hx236_0
       replace p236 := eq_true p236
       replace q236 := eq_true q236
       go_wp2_with (first | ((with_reducible refine gate_callee (f := 53) rfl ?_); refine gl (some 29) Try.func53 #[.int .i64 (rd l0_1 x7_1), .int .i64 (-100000), .int .i64 100000] ?_; (with_reducible refine (spec_l01In.calls (rd l0_1 x7_1) (-100000) 100000 false _ A24.out).mono ?_); rintro e w' ⟨rfl, ⟨nd, rfl⟩⟩; refine ⟨_, rfl, ?_⟩))
       go_roundg kj12
       case measure => have := HK1.out; have := HJ12.out; omega
       case rel => exact ⟨(2), (wrap64 (x7_1 + 1)), (by first | rfl | (simp; done) | (simp [*]; done)), (by first | rfl | (simp; done) | (simp [*]; done)), H', ⟨by have := HK1.out; have := HJ12.out; omega⟩, ⟨pk BK232.out⟩, ⟨pk BK233.out⟩, ⟨pk BK234.out⟩, ⟨bks HB.out⟩⟩
     ·replace c21 := Bool.eq_false_iff.mpr c21
      subst c21
      have H1 : (if x6_1 = 0 then ((spec_l10Times.f kj12 a0_0 l0_1 a1_0 l1_1).bind fun bt240 => ((spec_l10Told.f kj12 bt240.1 bt240.2).bind fun bt244 => (some (bt244.1, bt244.2.1, bt244.2.2)))) else (some (0, ([] : List Int), x6_1))) = some (r1, r2, r3) := by rw [if_neg (show ¬ (false = true) by decide)] at H; exact H
      clear H
      have H := H1
      clear H1
      by_cases c42 : x6_1 = 0
      ·rw [if_pos c42] at H
       have c42b0 : (x6_1 == 0) = true := beq_iff_eq.mpr c42
       have c42b1 : (x6_1 != 0) = false := bne_eq_false_iff_eq.mpr c42
       clear c42
       replace H := Option.bind_eq_some_iff.mp H
       obtain ⟨⟨t240, t241⟩, A430, H⟩ := H
       try dsimp only at H
       have A43 := Aside0.mk A430
       clear A430
       replace H := Option.bind_eq_some_iff.mp H
       obtain ⟨⟨t244, t245, t248⟩, A440, H⟩ := H
       try dsimp only at H
       have A44 := Aside0.mk A440
       clear A440
       simp only [Option.some.injEq, Prod.mk.injEq] at H
       obtain ⟨rfl, rfl, rfl⟩ := H
       have hnb45 := NB232_233.out
       have hnc45 := NB233_232.out
       have hnb46 := NB232_234.out
       have hnc46 := NB234_232.out
       have hcz47_0 : wc.cell? ⟨gb232, 0, none⟩ = some (.int .i64 a0_0) := (blk_cell BK232.out 0).trans rfl
       have hcz47_1 : wc.cell? ⟨gb232, 1, none⟩ = some (.slice A0_1 l0_1.length c0_1) := (blk_cell BK232.out 1).trans rfl
       have hfz47_0 := blk_frozen BK232.out 0
       have hfz47_1 := blk_frozen BK232.out 1
       have hnb48 := NB233_234.out
       have hnc48 := NB234_233.out
       have hcz49_0 : wc.cell? ⟨gb233, 0, none⟩ = some (.int .i64 a1_0) := (blk_cell BK233.out 0).trans rfl
       have hcz49_1 : wc.cell? ⟨gb233, 1, none⟩ = some (.slice A1_1 l1_1.length c1_1) := (blk_cell BK233.out 1).trans rfl
       have hfz49_0 := blk_frozen BK233.out 0
       have hfz49_1 := blk_frozen BK233.out 1
       go_wp2_with (first | ((with_reducible refine gate_callee (f := 80) rfl ?_); refine gl (some 47) Try.func80 #[.agg #[.int .i64 a0_0, .slice A0_1 l0_1.length c0_1], .agg #[.int .i64 a1_0, .slice A1_1 l1_1.length c1_1]] ?_; (with_reducible refine (spec_l10Times.calls kj12 a0_0 _ _ l0_1 a1_0 _ _ l1_1 t240 t241 _ ?side1 ?side2 ?side3 ?side4 A43.out).mono ?_); (case side1 => repeat (first | exact (Kd.C_below HR0_1.out HB.out) | (with_reducible refine Kd.C_alloc ?_ _) | (with_reducible refine Kd.C_drewN ?_ _) | (with_reducible refine Kd.C_drew ?_))); (case side2 => exact HC0_1.out); (case side3 => repeat (first | exact (Kd.C_below HR1_1.out HB.out) | (with_reducible refine Kd.C_alloc ?_ _) | (with_reducible refine Kd.C_drewN ?_ _) | (with_reducible refine Kd.C_drew ?_))); (case side4 => exact HC1_1.out); rintro e w50 ⟨v242, rfl, ho0, hb⟩; refine ⟨_, rfl, ?_⟩; have HO243 := Aside0.mk (Kd.R_lower ho0 (below_size (bks HB.out))); replace BK232 := bb BK232 hb; replace BK233 := bb BK233 hb; replace BK234 := bb BK234 hb; replace HB := hs HB hb; (try clear hb ho0); obtain ⟨Ao51, co51, eo51⟩ := Kd.R_slice HO243.out; subst eo51) | ((with_reducible refine gate_callee (f := 75) rfl ?_); refine gl (some 48) Try.func75 #[.agg #[.int .i64 t240, .slice Ao51 t241.length co51]] ?_; (with_reducible refine (spec_l10Told.calls kj12 t240 (fun k_ => some k_ = (.slice Ao51 t241.length co51 : Value).ownBlock) (.slice Ao51 t241.length co51) t241 t244 t245 t248 w _ ?side1 ?side2 A44.out).mono ?_); (case side1 => repeat (first | (with_reducible first | exact HB.out | apply below_alloc | apply pw_below_drewN | apply below_drew1 | refine below_set ?_ GE232.out | refine below_set ?_ GE233.out | refine below_set ?_ GE234.out) | exact HB.out)); (case side2 => exact Kd.R_tight rfl HO243.out); rintro e w52 ⟨v246, rfl, ho0, hb, hkp⟩; refine ⟨_, rfl, ?_⟩; have HO247 := Aside0.mk (Kd.R_mono (ok' := fun k_ => True) ho0 (fun k_ hk_ => trivial)); replace BK232 := Aside0.mk (blk_kept (pk BK232.out) hkp (fun hs_ => (fun e_ => (Kd.R_ne HO243.out BK232.out (by decide)) e_) hs_)); replace BK233 := Aside0.mk (blk_kept (pk BK233.out) hkp (fun hs_ => (fun e_ => (Kd.R_ne HO243.out BK233.out (by decide)) e_) hs_)); replace BK234 := Aside0.mk (blk_kept (pk BK234.out) hkp (fun hs_ => (fun e_ => (Kd.R_ne HO243.out BK234.out (by decide)) e_) hs_)); replace HB := Aside0.mk hb; clear HO243; (try clear hb hkp ho0)) | ((with_reducible refine gate_dst (N := 8) rfl ?_); refine bx 8 #[.int .i64 0, .slice none 0 0] 24 (fun gb249 hg w53 hbox hb => ?_); have BK249 := Aside0.mk hbox; have GW249 := ge HB hg; have GE249 := GW249; obtain ⟨NB232_249, NB249_232⟩ := nb BK232 hg; obtain ⟨NB233_249, NB249_233⟩ := nb BK233 hg; obtain ⟨NB234_249, NB249_234⟩ := nb BK234 hg; replace HO247 := rb HO247 hb; replace BK232 := bb BK232 hb; replace BK233 := bb BK233 hb; replace BK234 := bb BK234 hb; replace HB := hs HB hb; clear hb hbox hg; have hnb54 := NB249_232.out; have hnc54 := NB232_249.out; have hnb55 := NB249_233.out; have hnc55 := NB233_249.out; have hnb56 := NB249_234.out; have hnc56 := NB234_249.out; have hcz57_0 : w53.cell? ⟨gb249, 0, none⟩ = some (.int .i64 0) := (blk_cell BK249.out 0).trans rfl; have hcz57_1 : w53.cell? ⟨gb249, 1, none⟩ = some (.slice none 0 0) := (blk_cell BK249.out 1).trans rfl; have hfz57_0 := blk_frozen BK249.out 0; have hfz57_1 := blk_frozen BK249.out 1; obtain ⟨Ao58, co58, eo58⟩ := Kd.R_slice HO247.out; subst eo58; have hcz59_0 : w53.cell? ⟨gb234, 0, none⟩ = some (.int .i64 0) := (blk_cell BK234.out 0).trans rfl; have hcz59_1 : w53.cell? ⟨gb234, 1, none⟩ = some (.slice none 0 0) := (blk_cell BK234.out 1).trans rfl; have hfz59_0 := blk_frozen BK234.out 0; have hfz59_1 := blk_frozen BK234.out 1))
       refine bodyPost_ret (results_ct rfl _ _ gb234 24 #[.int .i64 t244, .slice Ao58 t245.length co58] (0, 0) _ rfl (by (with_reducible repeat (first | refine blk_drewN ?_ _ | refine blk_drew ?_ | refine blk_alloc ?_ _)); refine blk_put (cs := #[.int .i64 t244, .slice none 0 0]) ?_ 1 _ rfl; (with_reducible repeat (first | refine blk_drewN ?_ _ | refine blk_drew ?_ | refine blk_alloc ?_ _)); refine blk_put (cs := #[.int .i64 0, .slice none 0 0]) ?_ 0 _ rfl; (with_reducible repeat (first | refine blk_drewN ?_ _ | refine blk_drew ?_ | refine blk_alloc ?_ _)); refine blk_far ?_ NB234_249.out _; (with_reducible repeat (first | refine blk_drewN ?_ _ | refine blk_drew ?_ | refine blk_alloc ?_ _)); refine blk_far ?_ NB234_249.out _; (with_reducible repeat (first | refine blk_drewN ?_ _ | refine blk_drew ?_ | refine blk_alloc ?_ _)); exact BK234.out) Try.underlying24 rfl (by kernel_rfl)) rfl ?_
       exact ⟨_, by first | rfl | (simp [errW_none, errW_some] <;> rfl) | (simp [*, errW_none, errW_some] <;> rfl), by (with_reducible repeat (first | apply Kd.R_alloc | apply Kd.R_drewN | apply Kd.R_drew)); exact Kd.R_mono (Kd.R_far (p := ⟨gb234, 1, none⟩) (Kd.R_far (p := ⟨gb234, 0, none⟩) (Kd.R_far (p := ⟨gb249, 1, none⟩) (Kd.R_far (p := ⟨gb249, 0, none⟩) (Kd.R_types (Kd.R_types HO247.out BK249.out (by decide)) BK234.out (by decide)) (fun _ hk => hk.1.2) (.int .i64 t244)) (fun _ hk => hk.1.2) (.slice Ao58 t245.length co58)) (fun _ hk => hk.2) (.int .i64 t244)) (fun _ hk => hk.2) (.slice Ao58 t245.length co58)) (fun _ hk => trivial), bks HB.out⟩
      ·rw [if_neg c42] at H
       have c42b0 : (x6_1 == 0) = false := beq_eq_false_iff_ne.mpr c42
       have c42b1 : (x6_1 != 0) = true := bne_iff_ne.mpr c42
       simp only [Option.some.injEq, Prod.mk.injEq] at H
       obtain ⟨rfl, rfl, rfl⟩ := H
       have hnb60 := NB234_232.out
       have hnc60 := NB232_234.out
       have hnb61 := NB234_233.out
       have hnc61 := NB233_234.out
       have hcz62_0 : wc.cell? ⟨gb234, 0, none⟩ = some (.int .i64 0) := (blk_cell BK234.out 0).trans rfl
       have hcz62_1 : wc.cell? ⟨gb234, 1, none⟩ = some (.slice none 0 0) := (blk_cell BK234.out 1).trans rfl
       have hfz62_0 := blk_frozen BK234.out 0
       have hfz62_1 := blk_frozen BK234.out 1
       go_wp2
       refine bodyPost_ret (results_ct rfl _ _ gb234 24 #[.int .i64 0, .slice none 0 0] (0, 0) _ rfl (by (with_reducible repeat (first | refine blk_drewN ?_ _ | refine blk_drew ?_ | refine blk_alloc ?_ _)); refine blk_put (cs := #[.int .i64 0, .slice none 0 0]) ?_ 1 _ rfl; (with_reducible repeat (first | refine blk_drewN ?_ _ | refine blk_drew ?_ | refine blk_alloc ?_ _)); refine blk_put (cs := #[.int .i64 0, .slice none 0 0]) ?_ 0 _ rfl; (with_reducible repeat (first | refine blk_drewN ?_ _ | refine blk_drew ?_ | refine blk_alloc ?_ _)); exact BK234.out) Try.underlying24 rfl (by kernel_rfl)) rfl ?_
       exact ⟨_, by first | rfl | (simp [errW_none, errW_some] <;> rfl) | (simp [*, errW_none, errW_some] <;> rfl), by first | exact Kd.R_nil _ _ _ _ _ | exact Kd.N_nil _ _ _ _ _ | exact Kd.V_nil _ _ _ _ _ | exact Kd.Q_nil _ _ _ _ _ | exact Kd.S_nil _ _ _ _ _, bks HB.out⟩

end Go.Proofs.Ythkdkiifchefhaa.PFnRings
