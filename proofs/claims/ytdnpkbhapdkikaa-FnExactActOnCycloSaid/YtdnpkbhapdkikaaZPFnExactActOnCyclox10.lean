-- LAID BY pp.py (a program of this repo): what the kit's print tells of this seat's functions, with contracts by hand
import Derived.Test.YtdnpkbhapdkikaaZPFnExactActOnCyclox0
import Derived.Test.YtdnpkbhapdkikaaZPFnExactActOnCyclox7
namespace Go.Proofs.Ytdnpkbhapdkikaa.PFnExactActOnCyclo
open Go.RowKit Go.Proofs.YtdnpkbhapdkikaaW.PrintWords Go.Proofs.YtdnpkbhapdkikaaW.PrintLast Go.Proofs.YtdnpkbhapdkikaaW.PrintMore
attribute [local go_sem] max2_int min2_int max_two min_two max_three min_three max_four min_four   -- for this text's walks alone
set_option linter.unusedVariables false
set_option linter.unusedSimpArgs false

/-! ### impl_field_times, BY HAND: function 127 -/
set_option maxHeartbeats 8000000 in
set_option maxRecDepth 100000 in
theorem sumAdd0 (g o : Nat) (l : Int) (a b : Int) (cur : Array Value) (t : Nat) (w : World) (hg : w.heap[g]? = some (.cells cur t (0, 0))) (b0 fa fb fp fs : Nat) (h0 : cur[o]? = some (.int .i64 l)) (h1 : cur[o + 1]? = some (.float .f64 b0))
    (e1 : FloatKind.f64.nearest a = fa) (e2 : FloatKind.f64.nearest b = fb) (e3 : Ieee.double.mul fa fb = some fp) (e4 : Ieee.double.add b0 fp = some fs) :
    Calls Try.prog 194 #[.pointer (some ⟨g, o, none⟩), .int .i64 a, .int .i64 b] w fun e w' => e = .returned (.tuple #[]) ∧ ∃ W, w' = (W.setCell ⟨g, o + 1, none⟩ (.float .f64 fs)) ∧ W = (w.setCell ⟨g, o, none⟩ (.int .i64 (wrap64 (l + wrap64 (a * b))))) := by
  have hc0 : w.cell? ⟨g, o, none⟩ = some (.int .i64 l) := by simp only [World.cell?, hg]; exact h0
  have hf0 : w.frozen? ⟨g, o, none⟩ = false := by simp [World.frozen?, hg]
  have HG := Aside0.mk hg
  have H1 := Aside0.mk h1
  clear hg h0 h1
  have r1 : ∀ W, (convert 2 144 (.int .i64 a)).run Try.prog W = .ok (.float .f64 fa) W := fun W => by rw [← e1]; exact run_convert_int_float W 2 144 .i64 .f64 a (by rw [Try.underlying2]; rfl) Try.underlying144
  have r2 : ∀ W, (convert 2 144 (.int .i64 b)).run Try.prog W = .ok (.float .f64 fb) W := fun W => by rw [← e2]; exact run_convert_int_float W 2 144 .i64 .f64 b (by rw [Try.underlying2]; rfl) Try.underlying144
  have r3 : ∀ W, (binOp .mul 144 (.float .f64 fa) (.float .f64 fb)).run Try.prog W = .ok (.float .f64 fp) W := fun W => run_float_arith W .mul 144 .f64 fa fb fp e3
  have r4 : ∀ W, (binOp .add 144 (.float .f64 b0) (.float .f64 fp)).run Try.prog W = .ok (.float .f64 fs) W := fun W => run_float_arith W .add 144 .f64 b0 fp fs e4
  clear e1 e2 e3 e4
  go_enter Try.func194, Try.ntmps194
  go_wp2_with (first | ((with_reducible refine gate_store (t := 2) (p := 15) rfl ?_); refine store_event (t := 2) (p := 15) (v := ?v1) (w1 := w.setCell ⟨g, o, none⟩ (.int .i64 (wrap64 (l + wrap64 (a * b))))) ?hg ?ho ?hn ?hr ?_; (case ho => rfl); (case hg => rfl); (case hn => rfl); (case hr => first | (go_simp; done) | (go_simp; rfl)); intro w1 hw; have hb1 := blk_put HG.out o (.int .i64 (wrap64 (l + wrap64 (a * b)))) rfl; rw [← hw] at hb1; have hc1 : w1.cell? ⟨g, o + 1, none⟩ = some (.float .f64 b0) := (blk_cell hb1 (o + 1)).trans (by rw [Array.getElem?_setIfInBounds_ne (by omega)]; exact H1.out); have hf1 := blk_frozen hb1 (o + 1); have hst : (store ⟨g, o + 1, none⟩ (.float .f64 fs)).run Try.prog w1 = .ok () (w1.setCell ⟨g, o + 1, none⟩ (.float .f64 fs)) := (by simp [store, Sem.run, hc1, hf1]); have HW := Aside0.mk hw; clear hw hb1 hc0 hf0))
  first | go_end0 | ((try simp only [Exit.inBlock, Exit.then]); refine bodyPost_ret (results_none rfl _ _ _) rfl ?_)
  exact ⟨by first | rfl | (simp; done), _, rfl, HW.out⟩
def sumVal0.T1 : Bool × List (List Nat × List Nat) := (true, [([], []), ([0], [0]), ([1], [1]), ([2], [2]), ([], []), ([4], [4]), ([5], [5]), ([6], [6]), ([7], [7]), ([8, 8], [8]), ([9], [9]), ([10, 9], [9, 10]), ([11, 9], [9, 11]), ([12, 9], [9, 12]), ([13, 9], [9, 13]), ([9, 14], [9, 14]), ([15, 9], [15]), ([16], [16]), ([17, 16], [16, 17]), ([18, 16], [16, 18]), ([19, 16], [16, 19]), ([20, 16], [16, 20]), ([16, 21], [16, 21]), ([3, 16, 0, 1, 2, 3], [3]), ([22, 23, 0, 1, 2, 3, 4, 5, 6, 7, 8, 9, 10, 11, 12, 13, 14, 15, 16, 17, 18, 19, 20, 21, 22, 23], [22])])
def sumVal0.B1 : List Nat := [0, 1, 3, 7, 0, 16, 48, 112, 240, 496, 1008, 2032, 4080, 8176, 16368, 32752, 65520, 131056, 262128, 524272, 1048560, 2097136, 4194288, 131071, 16777215]
theorem sumVal0.tab1 : rtab .any (opsOf Try.f195 1) = sumVal0.T1 := by kernel_rfl
theorem sumVal0.bits1 : waitsOk sumVal0.T1.2 sumVal0.B1 = true := by kernel_rfl
set_option maxHeartbeats 8000000 in
set_option maxRecDepth 100000 in
theorem sumVal0 (g o : Nat) (l : Int) (b0 : Nat) (p q1 q2 : Bool) (w : World) (hc0 : w.cell? ⟨g, o, none⟩ = some (.int .i64 l)) (hc1 : w.cell? ⟨g, o + 1, none⟩ = some (.float .f64 b0)) (hp : impl_within.f l (-1000000000) 1000000000 = some p)
    (e1 : (Ieee.double.order b0 4876203697187506176 == some .lt) = q1) (e2 : (Ieee.double.order b0 14099575734042281984 == some .gt) = q2) :
    Calls Try.prog 195 #[.pointer (some ⟨g, o, none⟩)] w fun e w' => e = .returned (.tuple #[.int .i64 l, .bool (p && q1 && q2)]) ∧ Below w.heap.size w w' := by
  have r1 : (FloatKind.f64.format.order b0 4876203697187506176 == some Ordering.lt) = q1 := e1
  have r2 : (FloatKind.f64.format.order b0 14099575734042281984 == some Ordering.gt) = q2 := e2
  have HP := Aside0.mk hp
  have HB := Aside0.mk (Below.refl w.heap.size w)
  clear e1 e2 hp
  go_enter Try.func195, Try.ntmps195
  try go_wp2
  replace HB := hd0 HB
  refine start_ (n := 25) (S := fun w' => w'.cell? ⟨g, o, none⟩ = some (.int .i64 l) ∧ w'.cell? ⟨g, o + 1, none⟩ = some (.float .f64 b0)) (ds := []) #[false, false, false, false, false, false, false, false, false, false, false, false, false, false, false, false, false, false, false, false, false, false, false, false, false] (by kernel_rfl) rfl rfl ⟨hc0, hc1⟩ (fun hHeld => ?_); refine with_tabW sumVal0.tab1 sumVal0.bits1 (fun HT_ HW_ => ?_)
  clear hc0 hc1
  generalize World.drew _ = w1 at HB hHeld ⊢
  refine pu 0 (some 4) HT_ ?_
  refine pu 1 (some 5) HT_ ?_
  refine pu 2 (some 6) HT_ ?_
  refine tk 3 (some 7) HT_ HW_ hHeld ?_ (hy := by rintro w' ⟨s0, s1⟩; go_simp; with_reducible rfl)
  refine pu 4 (some 8) HT_ ?_
  refine pu 5 (some 9) HT_ ?_
  refine pu 6 (some 10) HT_ ?_
  refine tk 7 (some 11) HT_ HW_ hHeld ?_ (hy := by rintro w' ⟨s0, s1⟩; go_simp; with_reducible rfl)
  refine on 8 (some 12) HT_ (fun K hK => ?_)
  refine gs Try.func129 #[.int .i64 l, .int .i64 (-1000000000), .int .i64 1000000000] ?_
  refine (impl_within.calls l (-1000000000) 1000000000 p _ HP.out).mono ?_
  rintro e w' ⟨rfl, ⟨nd, rfl⟩⟩
  refine ⟨_, rfl, ?_⟩
  refine hK.out _ _ ⟨hHeld.1, hHeld.2⟩ (fun hHeld => ?_)
  clear hK K
  refine nm ?_
  cases p
  · clear r1 r2
    refine pu 9 (some 13) HT_ ?_
    refine px 10 (some 14) HT_ ?_
    refine px 11 (some 15) HT_ ?_
    refine px 12 (some 16) HT_ ?_
    refine px 13 (some 17) HT_ ?_
    refine px 14 (some 18) HT_ ?_
    refine pu 15 (some 19) HT_ ?_
    refine pu 16 (some 20) HT_ ?_
    refine px 17 (some 21) HT_ ?_
    refine px 18 (some 22) HT_ ?_
    refine px 19 (some 23) HT_ ?_
    refine px 20 (some 24) HT_ ?_
    refine px 21 (some 25) HT_ ?_
    refine pu 22 (some 26) HT_ ?_
    refine pu 23 (some 2) HT_ ?_
    refine pu 24 (some 3) HT_ ?_
    refine done_ (done_of HT_.out (by kernel_rfl)) ?_
    clear hHeld HT_ HW_
    try go_wp2
    go_ret2
    exact ⟨by first | rfl | (simp; done), bk HB.out⟩
  · refine pu 9 (some 13) HT_ ?_
    refine pu 10 (some 14) HT_ ?_
    refine pu 11 (some 15) HT_ ?_
    refine pu 12 (some 16) HT_ ?_
    refine tk 13 (some 17) HT_ HW_ hHeld ?_ (hy := by rintro w' ⟨s0, s1⟩; go_simp; with_reducible rfl)
    refine pu 14 (some 18) HT_ ?_
    refine pu 15 (some 19) HT_ ?_
    refine pu 16 (some 20) HT_ ?_
    cases q1
    · clear r1 r2
      refine px 17 (some 21) HT_ ?_
      refine px 18 (some 22) HT_ ?_
      refine px 19 (some 23) HT_ ?_
      refine px 20 (some 24) HT_ ?_
      refine px 21 (some 25) HT_ ?_
      refine pu 22 (some 26) HT_ ?_
      refine pu 23 (some 2) HT_ ?_
      refine pu 24 (some 3) HT_ ?_
      refine done_ (done_of HT_.out (by kernel_rfl)) ?_
      clear hHeld HT_ HW_
      try go_wp2
      go_ret2
      exact ⟨by first | rfl | (simp; done), bk HB.out⟩
    · clear r1
      refine pu 17 (some 21) HT_ ?_
      refine pu 18 (some 22) HT_ ?_
      refine pu 19 (some 23) HT_ ?_
      refine tk 20 (some 24) HT_ HW_ hHeld ?_ (hy := by rintro w' ⟨s0, s1⟩; go_simp; with_reducible rfl)
      refine pu 21 (some 25) HT_ ?_
      refine pu 22 (some 26) HT_ ?_
      refine pu 23 (some 2) HT_ ?_
      refine pu 24 (some 3) HT_ ?_
      refine done_ (done_of HT_.out (by kernel_rfl)) ?_
      clear hHeld HT_ HW_
      try go_wp2
      go_ret2
      exact ⟨by first | rfl | (simp; done), bk HB.out⟩
def fitsB (T : Int) : Bool := decide (T.natAbs ≤ 1000000000)
theorem near_fits {b : Nat} {T : Int} {c : Nat} (h : Near b T c) (hc : c ≤ 400000) :
    (decide (-1000000000 ≤ wrap64 T ∧ wrap64 T ≤ 1000000000) && (Ieee.double.order b 4876203697187506176 == some .lt) && (Ieee.double.order b 14099575734042281984 == some .gt)) = fitsB T := by
  obtain ⟨n, hn, he⟩ := h
  have k1 : Go.Proofs.Ytdnpkbhapdkikaa.Plain.Fl.Is 4876203697187506176 1000000000000000000 := ⟨false, 7812500000000000, 7, by decide, by unfold Go.Proofs.Ytdnpkbhapdkikaa.Plain.Fl.Val; decide⟩
  have k2 : Go.Proofs.Ytdnpkbhapdkikaa.Plain.Fl.Is 14099575734042281984 (-1000000000000000000) := ⟨true, 7812500000000000, 7, by decide, by unfold Go.Proofs.Ytdnpkbhapdkikaa.Plain.Fl.Val; decide⟩
  rw [Go.Proofs.Ytdnpkbhapdkikaa.Plain.Fl.is_order hn k1, Go.Proofs.Ytdnpkbhapdkikaa.Plain.Fl.is_order hn k2]
  have a1 : ((some (compare n 1000000000000000000) == some Ordering.lt) : Bool) = decide (n < 1000000000000000000) := by
    rcases Int.lt_trichotomy n 1000000000000000000 with h | h | h
    · simp [compare, compareOfLessAndEq, h]
    · subst h; rfl
    · have h1 : ¬ n < 1000000000000000000 := by omega
      have h2 : ¬ n = 1000000000000000000 := by omega
      simp [compare, compareOfLessAndEq, h1, h2]
  have a2 : ((some (compare n (-1000000000000000000)) == some Ordering.gt) : Bool) = decide (-1000000000000000000 < n) := by
    rcases Int.lt_trichotomy n (-1000000000000000000) with h | h | h
    · have h1 : ¬ -1000000000000000000 < n := by omega
      simp [compare, compareOfLessAndEq, h, h1]
    · subst h; rfl
    · have h1 : ¬ n < -1000000000000000000 := by omega
      have h2 : ¬ n = -1000000000000000000 := by omega
      simp [compare, compareOfLessAndEq, h1, h2, h]
  rw [a1, a2]
  unfold fitsB
  have hw : T.natAbs < 9000000000000000000 → wrap64 T = T := fun h => by unfold wrap64; omega
  have hc' : c * 2 ^ 41 ≤ 400000 * 2 ^ 41 := Nat.mul_le_mul_right _ hc
  rw [Bool.eq_iff_iff]
  simp only [Bool.and_eq_true, decide_eq_true_eq]
  constructor
  · rintro ⟨⟨⟨h1, h2⟩, h3⟩, h4⟩
    have := hw (by omega)
    omega
  · intro h
    have := hw (by omega)
    omega
theorem within_fits (l : Int) : impl_within.f l (-1000000000) 1000000000 = some (decide (-1000000000 ≤ l ∧ l ≤ 1000000000)) := by
  unfold impl_within.f
  by_cases h : -1000000000 ≤ l
  · rw [if_pos h]; simp [h]
  · rw [if_neg h]; simp [h]
theorem sumVal {e base g n cap : Nat} {ok : Nat → Prop} {xs : List (Int × Nat)} {w : World} (h : sumK.R e w base ok (.slice (some ⟨g, 0, none⟩) n cap) xs) (m : Nat) (x : Int × Nat) (hx : xs[m]? = some x) (hc : x.2 ≤ 400000) :
    Calls Try.prog 195 #[.pointer (some ⟨g, m * 2, none⟩)] w fun e w' => e = .returned (.tuple #[.int .i64 (wrap64 x.1), .bool (fitsB x.1)]) ∧ Below w.heap.size w w' := by
  obtain ⟨cur, _, _, hh, hcells, _⟩ := sum_row h
  obtain ⟨b, c0, c1, hN⟩ := hcells m x hx
  have := sumVal0 g (2 * m) (wrap64 x.1) b _ _ _ w ((blk_cell hh _).trans c0) ((blk_cell hh _).trans c1) (within_fits _) rfl rfl
  rw [near_fits hN hc] at this
  rw [Nat.mul_comm m 2]
  exact this
def impl_values.f (xs : List (Int × Nat)) : Option (List Int × Bool) := if xs.all (fun x => decide (x.2 ≤ 400000)) = true then (if xs.length < 17592186044416 then some (xs.map (fun x => wrap64 x.1), xs.all (fun x => fitsB x.1)) else none) else none
theorem values_step (xs : List (Int × Nat)) (i : Nat) (x : Int × Nat) (hx : xs[i]? = some x) :
    (xs.take (i + 1)).map (fun x => wrap64 x.1) = (xs.take i).map (fun x => wrap64 x.1) ++ [wrap64 x.1] ∧ (xs.take (i + 1)).all (fun x => fitsB x.1) = ((xs.take i).all (fun x => fitsB x.1) && fitsB x.1) := by
  rw [List.take_add_one, hx]
  simp
set_option maxHeartbeats 8000000 in
set_option maxRecDepth 100000 in
theorem impl_values.calls {e base g n cap : Nat} {ok : Nat → Prop} {xs : List (Int × Nat)} (r1 : List Int) (r2 : Bool) (w : World) (hx : sumK.R e w base ok (.slice (some ⟨g, 0, none⟩) n cap) xs) (h : impl_values.f xs = some (r1, r2)) :
    Calls Try.prog 182 #[.slice (some ⟨g, 0, none⟩) n cap] w fun e w' => ∃ v0_ : Value, e = .returned (.tuple #[v0_, .bool r2]) ∧ Kd.R (Kd.int .i64) 2 w' w.heap.size (fun _ => True) v0_ r1 ∧ Below w.heap.size w w' := by
  unfold impl_values.f at h
  by_cases h1 : xs.all (fun x => decide (x.2 ≤ 400000)) = true
  rotate_left
  · rw [if_neg h1] at h; exact absurd h (by simp)
  rw [if_pos h1] at h
  by_cases h2 : xs.length < 17592186044416
  rotate_left
  · rw [if_neg h2] at h; exact absurd h (by simp)
  rw [if_pos h2] at h
  simp only [Option.some.injEq, Prod.mk.injEq] at h
  obtain ⟨rfl, rfl⟩ := h
  obtain ⟨_, hn, _⟩ := sum_row hx
  subst hn
  have HX := Aside0.mk hx
  have H1 := Aside0.mk h1
  have H2 := Aside0.mk h2
  clear hx h1 h2
  have HB := Aside0.mk (Below.refl w.heap.size w)
  go_enter Try.func182, Try.ntmps182
  go_wp2_with (first | ((with_reducible refine gate_dst (N := 9) rfl ?_); refine Kd.R_lit (Kd.int .i64) _ 2 ?hg (N := 9) ?hd (xs := ([] : List Int)) (inner := []) (ok := fun _ => True) (okp := fun _ => True) ?hr ?hp (fun _ hk => hk) trivial (Below.refl _ _) (Nat.le_refl _) (by simp) ?_; (case hd => rfl); (case hg => rfl); (case hr => first | (go_simp; done) | (go_simp; rfl)); (case hp => exact (Reps.none _ _)); intro v159 w2 ho3 hb hg_ hnew_; clear hg_ hnew_; have HO := Aside0.mk (Kd.R_lower ho3 (below_size (bk HB.out))); replace HB := hs HB hb; clear hb ho3))
  go_loopg [4, 5, 12] xs.length (fun kq v4 v5 v12 w' => ∃ i : Nat, v12 = .int .i64 (i : Int) ∧ v5 = .bool ((xs.take i).all (fun x => fitsB x.1)) ∧ Aside0 (i ≤ xs.length ∧ xs.length ≤ kq + i) ∧ Aside0 (Kd.R (Kd.int .i64) 2 w' w.heap.size (fun _ => True) v4 ((xs.take i).map (fun x => wrap64 x.1))) ∧ Aside0 (Below w.heap.size w w'))
  case atStart => exact ⟨0, rfl, rfl, ⟨Nat.zero_le _, Nat.le_refl _⟩, ⟨rk HO.out⟩, ⟨bk HB.out⟩⟩
  case round =>
    clear HO HB
    obtain ⟨i, rfl, rfl, HM, HO, HB⟩ := hrel
    by_cases hi : i < xs.length
    rotate_left
    · have he : i = xs.length := by have := HM.out; omega
      subst he
      have hd1 : decide ((xs.length : Int) < (xs.length : Int)) = false := decide_eq_false (by omega)
      rw [List.take_length] at HO ⊢
      go_wp2
      go_ret2
      exact ⟨_, by first | rfl | (simp; done), rk HO.out, bk HB.out⟩
    have hd1 : decide ((i : Int) < (xs.length : Int)) = true := decide_eq_true (by omega)
    obtain ⟨x, hxi⟩ : ∃ x, xs[i]? = some x := ⟨_, List.getElem?_eq_getElem hi⟩
    have hxc : x.2 ≤ 400000 := by have := List.all_eq_true.1 H1.out x (List.mem_of_getElem? hxi); simpa using this
    obtain ⟨s1, s2⟩ := values_step xs i x hxi
    have S1 := Aside0.mk s1
    have S2 := Aside0.mk s2
    have HXI := Aside0.mk hxi
    have HXC := Aside0.mk hxc
    clear s1 s2 hxi hxc
    obtain ⟨q, hq⟩ : ∃ q, q = (xs.take i).all (fun x => fitsB x.1) := ⟨_, rfl⟩
    rw [← hq]
    have HQ := Aside0.mk hq
    clear hq
    cases q
    all_goals
      go_wp2_with (first | ((with_reducible refine gate_callee (f := 195) rfl ?_); refine gl (some 19) Try.func195 #[.pointer (some ⟨g, i * 2, none⟩)] ?_; (with_reducible refine (sumVal (xs := xs) (Kd.R_below HX.out (bk HB.out)) i x HXI.out HXC.out).mono ?_); rintro e w' ⟨rfl, hb⟩; refine ⟨_, rfl, ?_⟩; replace HO := rb HO hb; replace HB := hs HB hb; (try clear hb)) | ((with_reducible refine gate_builtin (b := .append) (xs := #[.tmp 22, .tmp 24]) rfl ?_); at_builtin; refine Kd.R_append (Kd.int .i64) (w0 := w) w.heap.size rfl (.tmp 22) (.tmp 24) 22 2 (.int .i64 0) 8 rfl Try.underlying22 info2 rfl (by decide) (by omega) u4 ((xs.take i).map (fun x => wrap64 x.1)) (wrap64 x.1) [.int .i64 (wrap64 x.1)] (fun _ => True) (fun _ => False) rfl rfl ?aP (fun _ hk => hk.elim) ?aF ?aO ?aB ?aS ?aL ?_; (case aP => exact rfl); (case aB => exact (bk HB.out)); (case aF => exact (fun _ _ => trivial)); (case aO => exact (rk HO.out)); (case aS => exact (below_size (bk HB.out))); (case aL => have := H2.out; have := HM.out; rw [List.length_map, List.length_take]; omega); intro v163 w9 ho hb hg hat; rw [← S1.out] at ho; replace HO := Aside0.mk ho; replace HB := Aside0.mk hb; clear ho hb hg hat))
      have hwr : wrap64 ((i : Int) + 1) = ((i + 1 : Nat) : Int) := by have := H2.out; unfold wrap64; omega
      go_roundg (gk - 1)
      case measure => have := HM.out; omega
      case rel => exact ⟨i + 1, by rw [hwr], by rw [S2.out, ← HQ.out]; rfl, ⟨by have := HM.out; omega⟩, ⟨rk HO.out⟩, ⟨bk HB.out⟩⟩
def addAt (s : List (Int × Nat)) (m : Nat) (a y : Int) : Option (List (Int × Nat)) := match s[m]? with
  | none => none
  | some z => if a.natAbs < 2 ^ 53 ∧ y.natAbs < 2 ^ 53 ∧ (a * y).natAbs < 2 ^ 86 ∧ z.1.natAbs < 2 ^ 86 ∧ z.2 < 2 ^ 40 then some (s.set m (z.1 + a * y, z.2 + 1)) else none
def pr2 (x y : Int) : List Int → Nat → List (Int × Nat) → Option (List (Int × Nat))
  | [], _, s => some s
  | n :: t, m, s => if n = 0 then pr2 x y t (m + 1) s else (addAt s m (wrap64 (n * x)) y).bind fun s' => pr2 x y t (m + 1) s'
def pr1 (o : Int) (ps : List (List Int)) (i : Nat) (x : Int) : List Int → Nat → List (Int × Nat) → Option (List (Int × Nat))
  | [], _, s => some s
  | y :: t, k, s => if x = 0 ∨ y = 0 then pr1 o ps i x t (k + 1) s else (if o ≠ 0 ∧ 0 ≤ Int.tmod ((i : Int) + (k : Int)) o ∧ Int.tmod ((i : Int) + (k : Int)) o < (ps.length : Int) ∧ (rd_L1 ps (Int.tmod ((i : Int) + (k : Int)) o)).length < 17592186044416 then (pr2 x y (rd_L1 ps (Int.tmod ((i : Int) + (k : Int)) o)) 0 s).bind fun s' => pr1 o ps i x t (k + 1) s' else none)
def pr0 (o : Int) (ps : List (List Int)) (b : List Int) : List Int → Nat → List (Int × Nat) → Option (List (Int × Nat))
  | [], _, s => some s
  | x :: t, i, s => (pr1 o ps i x b 0 s).bind fun s' => pr0 o ps b t (i + 1) s'
def impl_field_product.f (o : Int) (ps : List (List Int)) (xs : List (Int × Nat)) (a b : List Int) : Option (List (Int × Nat)) := if a.length < 17592186044416 ∧ b.length < 17592186044416 then pr0 o ps b a 0 xs else none
theorem drop_rd (l : List Int) (i : Nat) (h : i < l.length) : l.drop i = rd l (i : Int) :: l.drop (i + 1) := by
  rw [List.drop_eq_getElem_cons h, rd, Int.toNat_natCast, List.getD_eq_getElem?_getD, List.getElem?_eq_getElem h]; rfl
/-- The contract of a step, on a row. -/
theorem sumAdd {e base g n cap : Nat} {ok : Nat → Prop} {xs ys : List (Int × Nat)} {w : World} (h : sumK.R e w base ok (.slice (some ⟨g, 0, none⟩) n cap) xs) (m : Nat) (a y : Int) (hx : addAt xs m a y = some ys) :
    Calls Try.prog 194 #[.pointer (some ⟨g, m * 2, none⟩), .int .i64 a, .int .i64 y] w fun e' w' => e' = .returned (.tuple #[]) ∧ sumK.R e w' base ok (.slice (some ⟨g, 0, none⟩) n cap) ys ∧ ∀ B w0, Below B w0 w → B ≤ g → Below B w0 w' := by
  unfold addAt at hx
  cases hz : xs[m]? with
  | none => rw [hz] at hx; simp at hx
  | some z =>
    rw [hz] at hx
    simp only at hx
    by_cases hc : a.natAbs < 2 ^ 53 ∧ y.natAbs < 2 ^ 53 ∧ (a * y).natAbs < 2 ^ 86 ∧ z.1.natAbs < 2 ^ 86 ∧ z.2 < 2 ^ 40
    rotate_left
    · rw [if_neg hc] at hx; simp at hx
    rw [if_pos hc] at hx
    obtain rfl := Option.some.inj hx
    have hm : m < xs.length := by
      rcases Nat.lt_or_ge m xs.length with h | h
      · exact h
      · rw [List.getElem?_eq_none h] at hz; cases hz
    obtain ⟨cur, _, _, hh, hcells, _⟩ := sum_row h
    obtain ⟨b, c0, c1, hN⟩ := hcells m z hz
    obtain ⟨p, s, e3, e4, hN'⟩ := near_add hN hc.1 hc.2.1 hc.2.2.1 hc.2.2.2.1 hc.2.2.2.2
    have hput := sum_put h m (z.1 + a * y, z.2 + 1) hm s hN'
    have hwr : wrap64 (wrap64 z.1 + wrap64 (a * y)) = wrap64 (z.1 + a * y) := by unfold wrap64; omega
    rw [Nat.mul_comm m 2]
    refine (sumAdd0 g (2 * m) (wrap64 z.1) a y cur e w hh b _ _ p s c0 c1 rfl rfl e3 e4).mono ?_
    rintro e' w' ⟨rfl, W, rfl, rfl⟩
    rw [hwr]
    exact ⟨rfl, hput.1, hput.2.2⟩
def impl_field_product.T7 : Bool × List (List Nat × List Nat) := (true, [([], []), ([0], [0]), ([1], [1]), ([2], [2]), ([], []), ([], []), ([4, 5], [4, 5]), ([], []), ([7], [7]), ([8], [8]), ([9], [9]), ([6, 10], [6, 10]), ([3, 11], [3, 11]), ([12], [12]), ([13], [13]), ([], [])])
def impl_field_product.B7 : List Nat := [0, 1, 3, 7, 0, 0, 48, 0, 128, 384, 896, 2032, 4095, 8191, 16383, 0]
theorem impl_field_product.tab7 : rtab .any (opsOf Try.f181 7) = impl_field_product.T7 := by kernel_rfl
theorem impl_field_product.bits7 : waitsOk impl_field_product.T7.2 impl_field_product.B7 = true := by kernel_rfl
set_option maxHeartbeats 8000000 in
set_option maxRecDepth 100000 in
theorem impl_field_product.calls {g0 gS : Nat} {e base n cap : Nat} {ok : Nat → Prop} (a0_0 : Int) (a0_1 : Int) (A0_2 : Option Addr) (c0_2 : Nat) (l0_2 : List (List Int)) (xs : List (Int × Nat)) (A2 : Option Addr) (c2 : Nat) (l2 : List Int) (A3 : Option Addr) (c3 : Nat) (l3 : List Int) (r : List (Int × Nat)) (w0 w : World)
    (hB : Below w0.heap.size w0 w) (hgS : w0.heap.size ≤ gS) (hP : Kd.C (Kd.slice 2 (Kd.int .i64)) w0 A0_2 l0_2.length l0_2) (hr2 : Kd.C (Kd.int .i64) w0 A2 l2.length l2) (hr3 : Kd.C (Kd.int .i64) w0 A3 l3.length l3)
    (hG0 : w0.heap[g0]? = some (.cells #[.int .i64 a0_0, .int .i64 a0_1, .slice A0_2 l0_2.length c0_2] 84 (0, 0))) (hS : sumK.R e w base ok (.slice (some ⟨gS, 0, none⟩) n cap) xs) (h : impl_field_product.f a0_0 l0_2 xs l2 l3 = some r) :
    Calls Try.prog 181 #[.pointer (some ⟨g0, 0, none⟩), .slice (some ⟨gS, 0, none⟩) n cap, .slice A2 l2.length c2, .slice A3 l3.length c3] w fun e' w' => e' = .returned (.tuple #[]) ∧ sumK.R e w' base ok (.slice (some ⟨gS, 0, none⟩) n cap) r ∧ Below w0.heap.size w0 w' := by
  unfold impl_field_product.f at h
  by_cases hl : l2.length < 17592186044416 ∧ l3.length < 17592186044416
  rotate_left
  · rw [if_neg hl] at h; exact absurd h (by simp)
  rw [if_pos hl] at h
  have HL := Aside0.mk hl
  have HP := Aside0.mk hP
  have HR2 := Aside0.mk hr2
  have HR3 := Aside0.mk hr3
  have HG0 := Aside0.mk hG0
  have HGS := Aside0.mk hgS
  have HS := Aside0.mk hS
  have HB := Aside0.mk hB
  have HA := Aside0.mk h
  clear hl hP hr2 hr3 hG0 hgS hS hB h
  go_enter Try.func181, Try.ntmps181
  try go_wp2
  go_loopg [16] l2.length (fun kq v16 w' => ∃ (i : Nat) (s : List (Int × Nat)), v16 = .int .i64 (i : Int) ∧ Aside0 (i ≤ l2.length ∧ l2.length ≤ kq + i) ∧ Aside0 (pr0 a0_0 l0_2 l3 (l2.drop i) i s = some r) ∧ Aside0 (sumK.R e w' base ok (.slice (some ⟨gS, 0, none⟩) n cap) s) ∧ Aside0 (Below w0.heap.size w0 w'))
  case atStart => exact ⟨0, xs, rfl, ⟨Nat.zero_le _, Nat.le_refl _⟩, HA, ⟨rk HS.out⟩, ⟨bk HB.out⟩⟩
  case round =>
    clear HS HB HA
    obtain ⟨i, s, rfl, HM, HA, HS, HB⟩ := hrel
    obtain ⟨K1, hK_⟩ : ∃ K1, K1 = gk := ⟨_, rfl⟩
    subst hK_
    by_cases hi : i < l2.length
    rotate_left
    · have hd1 : decide ((i : Int) < (l2.length : Int)) = false := decide_eq_false (by omega)
      have h := HA.out
      rw [List.drop_eq_nil_of_le (by omega)] at h
      obtain rfl := Option.some.inj h
      clear h HA
      go_wp2
      first | go_end0 | ((try simp only [Exit.inBlock, Exit.then]); refine bodyPost_ret (results_none rfl _ _ _) rfl ?_)
      exact ⟨by first | rfl | (simp; done), rk HS.out, bk HB.out⟩
    have hd1 : decide ((i : Int) < (l2.length : Int)) = true := decide_eq_true (by omega)
    have h := HA.out
    clear HA
    rw [drop_rd l2 i hi] at h
    obtain ⟨s1, h1, h2⟩ := Option.bind_eq_some_iff.mp h
    have H1 := Aside0.mk h1
    have H2 := Aside0.mk h2
    clear h h1 h2
    obtain ⟨ad2, e2, hx2⟩ := Kd.at_int HR2.out (i : Int) (by omega) (by omega)
    cases e2
    replace hx2 := pw_cell_below HB.out hx2
    rw [Int.toNat_natCast] at hx2
    have hpi : (0 ≤ (i : Int)) = True := eq_true (by omega)
    have hqi : ((i : Int) < (l2.length : Int)) = True := eq_true (by omega)
    go_wp2
    clear hx2 hpi hqi hd1
    go_loopg [23] l3.length (fun kq v23 w' => ∃ (k : Nat) (s : List (Int × Nat)), v23 = .int .i64 (k : Int) ∧ Aside0 (k ≤ l3.length ∧ l3.length ≤ kq + k) ∧ Aside0 (pr1 a0_0 l0_2 i (rd l2 (i : Int)) (l3.drop k) k s = some s1) ∧ Aside0 (sumK.R e w' base ok (.slice (some ⟨gS, 0, none⟩) n cap) s) ∧ Aside0 (Below w0.heap.size w0 w'))
    case atStart => exact ⟨0, s, rfl, ⟨Nat.zero_le _, Nat.le_refl _⟩, H1, ⟨rk HS.out⟩, ⟨bk HB.out⟩⟩
    case round =>
      clear HS HB H1
      obtain ⟨k, s, rfl, HM1, HA, HS, HB⟩ := hrel
      obtain ⟨K2, hK_⟩ : ∃ K2, K2 = gk := ⟨_, rfl⟩
      subst hK_
      by_cases hk : k < l3.length
      rotate_left
      · have hd1 : decide ((k : Int) < (l3.length : Int)) = false := decide_eq_false (by omega)
        have h := HA.out
        rw [List.drop_eq_nil_of_le (by omega)] at h
        obtain rfl := Option.some.inj h
        clear h HA
        go_wp2
        have hwr : wrap64 ((i : Int) + 1) = ((i + 1 : Nat) : Int) := by have := HL.out; unfold wrap64; omega
        go_roundg (K1 - 1)
        case measure => have := HM.out; omega
        case rel => exact ⟨i + 1, s, by rw [hwr], ⟨by have := HM.out; omega⟩, H2, ⟨rk HS.out⟩, ⟨bk HB.out⟩⟩
      have hd1 : decide ((k : Int) < (l3.length : Int)) = true := decide_eq_true (by omega)
      have h := HA.out
      clear HA
      rw [drop_rd l3 k hk] at h
      obtain ⟨ad3, e3, hx3⟩ := Kd.at_int HR3.out (k : Int) (by omega) (by omega)
      cases e3
      replace hx3 := pw_cell_below HB.out hx3
      rw [Int.toNat_natCast] at hx3
      have hwr : wrap64 ((k : Int) + 1) = ((k + 1 : Nat) : Int) := by have := HL.out; unfold wrap64; omega
      have HWR := Aside0.mk hwr
      clear hwr
      unfold pr1 at h
      by_cases hz : (rd l2 (i : Int)) = 0 ∨ (rd l3 (k : Int)) = 0
      · rw [if_pos hz] at h
        have HA := Aside0.mk h
        have HZ := Aside0.mk hz
        clear h hz
        by_cases hx0 : (rd l2 (i : Int)) = 0
        · have hb1 : ((rd l2 (i : Int)) == 0) = true := beq_iff_eq.mpr hx0
          clear hx0
          go_wp2
          go_roundg (K2 - 1)
          case measure => have := HM1.out; omega
          case rel => exact ⟨k + 1, s, by rw [HWR.out], ⟨by have := HM1.out; omega⟩, HA, ⟨rk HS.out⟩, ⟨bk HB.out⟩⟩
        · have hb1 : ((rd l2 (i : Int)) == 0) = false := beq_eq_false_iff_ne.mpr hx0
          have hb2 : ((rd l3 (k : Int)) == 0) = true := beq_iff_eq.mpr (HZ.out.resolve_left hx0)
          clear hx0
          go_wp2
          go_roundg (K2 - 1)
          case measure => have := HM1.out; omega
          case rel => exact ⟨k + 1, s, by rw [HWR.out], ⟨by have := HM1.out; omega⟩, HA, ⟨rk HS.out⟩, ⟨bk HB.out⟩⟩
      rw [if_neg hz] at h
      have hb1 : ((rd l2 (i : Int)) == 0) = false := beq_eq_false_iff_ne.mpr (fun e_ => hz (.inl e_))
      have hb2 : ((rd l3 (k : Int)) == 0) = false := beq_eq_false_iff_ne.mpr (fun e_ => hz (.inr e_))
      have HZ := Aside0.mk hz
      clear hz
      have hwik : wrap64 ((i : Int) + (k : Int)) = (i : Int) + (k : Int) := by have := HL.out; unfold wrap64; omega
      obtain ⟨q, hq_⟩ : ∃ q, q = Int.tmod ((i : Int) + (k : Int)) a0_0 := ⟨_, rfl⟩
      rw [← hq_] at h
      by_cases hg : a0_0 ≠ 0 ∧ 0 ≤ q ∧ q < (l0_2.length : Int) ∧ (rd_L1 l0_2 q).length < 17592186044416
      rotate_left
      · rw [if_neg hg] at h; exact absurd h (by simp)
      rw [if_pos hg] at h
      obtain ⟨s2, h1, h3⟩ := Option.bind_eq_some_iff.mp h
      have H1 := Aside0.mk h1
      have H3 := Aside0.mk h3
      clear h h1 h3
      have ho1 : (a0_0 == 0) = false := beq_eq_false_iff_ne.mpr hg.1
      have ho2 : (a0_0 = 0) = False := eq_false hg.1
      have hL4 := Aside0.mk hg.2.2.2
      obtain ⟨ad4, A4, c4, e4, hx4, hl4, hi4⟩ := at_L1 HP.out q hg.2.1 hg.2.2.1
      cases e4
      replace hx4 := pw_cell_below HB.out hx4
      have HR4 := Aside0.mk hi4
      have hp4 : (0 ≤ q) = True := eq_true hg.2.1
      have hq4 : (q < (l0_2.length : Int)) = True := eq_true hg.2.2.1
      clear hl4 hi4 hg
      have hcz0 := pw_cell_below HB.out ((blk_cell HG0.out 0).trans rfl : w0.cell? ⟨g0, 0, none⟩ = some (.int .i64 a0_0))
      have hcz2 := pw_cell_below HB.out ((blk_cell HG0.out 2).trans rfl : w0.cell? ⟨g0, 2, none⟩ = some (.slice (some ad4) l0_2.length c0_2))
      replace hq_ := hq_.symm
      try go_wp2
      replace HS := rd0 HS
      replace HB := hd0 HB
      refine start_ (n := 16) (S := fun w' => w'.cell? ⟨g0, 0, none⟩ = some (.int .i64 a0_0) ∧ w'.cell? ⟨g0, 2, none⟩ = some (.slice (some ad4) l0_2.length c0_2) ∧ w'.cell? (ad4.add q.toNat) = some (.slice A4 (rd_L1 l0_2 q).length c4)) (ds := []) #[false, false, false, false, false, false, false, false, false, false, false, false, false, false, false, false] (by kernel_rfl) rfl rfl ⟨hcz0, hcz2, hx4⟩ (fun hHeld => ?_); refine with_tabW impl_field_product.tab7 impl_field_product.bits7 (fun HT_ HW_ => ?_)
      clear hcz0 hcz2 hx4 hx3
      generalize World.drew _ = w1 at HS HB hHeld ⊢
      refine pu 0 (some 34) HT_ ?_
      refine pu 1 (some 35) HT_ ?_
      refine pu 2 (some 36) HT_ ?_
      refine pu 4 (some 38) HT_ ?_
      refine pu 5 (some 39) HT_ ?_
      refine pu 6 (some 40) HT_ ?_
      refine pu 7 (some 41) HT_ ?_
      refine pu 8 (some 42) HT_ ?_
      refine pu 9 (some 43) HT_ ?_
      refine pu 15 (some 49) HT_ ?_
      refine tk 3 (some 37) HT_ HW_ hHeld ?_ (hy := by rintro w' ⟨s0, s1, s2⟩; go_simp; with_reducible rfl)
      refine tk 10 (some 44) HT_ HW_ hHeld ?_ (hy := by rintro w' ⟨s0, s1, s2⟩; go_simp; with_reducible rfl)
      refine pu 11 (some 45) HT_ ?_
      refine pu 12 (some 46) HT_ ?_
      refine tk 13 (some 47) HT_ HW_ hHeld ?_ (hy := by rintro w' ⟨s0, s1, s2⟩; go_simp; with_reducible rfl)
      refine pu 14 (some 48) HT_ ?_
      refine done_ (done_of HT_.out (by kernel_rfl)) ?_
      clear hHeld HT_ HW_ hd1 hp4 hq4 ho1 ho2 hb1 hb2 hwik
      try go_wp2
      go_loopg [49] (rd_L1 l0_2 q).length (fun kq v49 w' => ∃ (m : Nat) (s : List (Int × Nat)), v49 = .int .i64 (m : Int) ∧ Aside0 (m ≤ (rd_L1 l0_2 q).length ∧ (rd_L1 l0_2 q).length ≤ kq + m) ∧ Aside0 (pr2 (rd l2 (i : Int)) (rd l3 (k : Int)) ((rd_L1 l0_2 q).drop m) m s = some s2) ∧ Aside0 (sumK.R e w' base ok (.slice (some ⟨gS, 0, none⟩) n cap) s) ∧ Aside0 (Below w0.heap.size w0 w'))
      case atStart => exact ⟨0, s, rfl, ⟨Nat.zero_le _, Nat.le_refl _⟩, H1, ⟨rk HS.out⟩, ⟨bk HB.out⟩⟩
      case round =>
        clear HS HB H1
        obtain ⟨m, s, rfl, HM2, HA, HS, HB⟩ := hrel
        have hwm : wrap64 ((m : Int) + 1) = ((m + 1 : Nat) : Int) := by have := hL4.out; have := HM2.out; unfold wrap64; omega
        have HWM := Aside0.mk hwm
        clear hwm
        by_cases hm : m < (rd_L1 l0_2 q).length
        rotate_left
        · have hd1 : decide ((m : Int) < ((rd_L1 l0_2 q).length : Int)) = false := decide_eq_false (by omega)
          have h := HA.out
          rw [List.drop_eq_nil_of_le (by omega)] at h
          obtain rfl := Option.some.inj h
          clear h HA
          go_wp2
          go_roundg (K2 - 1)
          case measure => have := HM1.out; omega
          case rel => exact ⟨k + 1, s, by rw [HWR.out], ⟨by have := HM1.out; omega⟩, H3, ⟨rk HS.out⟩, ⟨bk HB.out⟩⟩
        have hd1 : decide ((m : Int) < ((rd_L1 l0_2 q).length : Int)) = true := decide_eq_true (by omega)
        have h := HA.out
        clear HA
        rw [drop_rd _ m hm] at h
        obtain ⟨ad5, e5, hx5⟩ := Kd.at_int HR4.out (m : Int) (by omega) (by omega)
        cases e5
        replace hx5 := pw_cell_below HB.out hx5
        rw [Int.toNat_natCast] at hx5
        unfold pr2 at h
        by_cases ht : (rd (rd_L1 l0_2 q) (m : Int)) = 0
        · rw [if_pos ht] at h
          have HA := Aside0.mk h
          clear h
          have hb1 : ((rd (rd_L1 l0_2 q) (m : Int)) != 0) = false := bne_eq_false_iff_eq.mpr ht
          clear ht
          go_wp2
          go_roundg (gk - 1)
          case measure => have := HM2.out; omega
          case rel => exact ⟨m + 1, s, by rw [HWM.out], ⟨by have := HM2.out; omega⟩, HA, ⟨rk HS.out⟩, ⟨bk HB.out⟩⟩
        rw [if_neg ht] at h
        obtain ⟨s3, h1, h4⟩ := Option.bind_eq_some_iff.mp h
        have H1 := Aside0.mk h1
        have HA := Aside0.mk h4
        clear h h1 h4
        have hb1 : ((rd (rd_L1 l0_2 q) (m : Int)) != 0) = true := bne_iff_ne.mpr ht
        clear ht
        have hms : m < s.length := by
          have h1 := H1.out
          unfold addAt at h1
          rcases Nat.lt_or_ge m s.length with h | h
          · exact h
          · rw [List.getElem?_eq_none h] at h1; simp at h1
        have hns : n = s.length := by obtain ⟨_, h_, _⟩ := sum_row HS.out; exact h_
        have hpm : ((m : Int) < (n : Int)) = True := eq_true (by omega)
        clear hns hms
        go_wp2_with (first | ((with_reducible refine gate_callee (f := 194) rfl ?_); refine gl (some 63) Try.func194 #[.pointer (some ⟨gS, m * 2, none⟩), .int .i64 (wrap64 (rd (rd_L1 l0_2 q) (m : Int) * (rd l2 (i : Int)))), .int .i64 (rd l3 (k : Int))] ?_; (with_reducible refine (sumAdd HS.out m (wrap64 (rd (rd_L1 l0_2 q) (m : Int) * (rd l2 (i : Int)))) (rd l3 (k : Int)) H1.out).mono ?_); rintro e' w' ⟨rfl, hR, hb⟩; refine ⟨_, rfl, ?_⟩; replace HS := Aside0.mk hR; replace HB := Aside0.mk (hb _ _ (bk HB.out) HGS.out); clear hR hb))
        go_roundg (gk - 1)
        case measure => have := HM2.out; omega
        case rel => exact ⟨m + 1, s3, by rw [HWM.out], ⟨by have := HM2.out; omega⟩, HA, ⟨rk HS.out⟩, ⟨bk HB.out⟩⟩
theorem infoSum : (Try.prog.info? 146).map (fun i => (i.zero, i.size, i.bytes)) = some (some (.agg #[.int .i64 0, .float .f64 0]), 2, 16) := by kernel_rfl
theorem sum_zero : SumAt (0, 0) (Value.agg #[.int .i64 0, .float .f64 0]).cells.toList := ⟨0, by show [Value.int .i64 0, .float .f64 0] = [.int .i64 (wrap64 0), .float .f64 0]; rw [show wrap64 0 = 0 from (by unfold wrap64; omega)], near_zero⟩
def impl_field_times.f (a0_0 : Int) (a0_1 : Int) (a0_2 : List (List Int)) (l1 l2 : List Int) : Option (List Int × Bool) := if 1 ≤ a0_1 ∧ a0_1 ≤ 8796093022208 then (impl_field_product.f a0_0 a0_2 (List.replicate a0_1.toNat (0, 0)) l1 l2).bind fun s => impl_values.f s else none
theorem pr2_length (x y : Int) : ∀ (l : List Int) (m : Nat) (s r : List (Int × Nat)), pr2 x y l m s = some r → r.length = s.length
  | [], _, s, r, h => by obtain rfl := Option.some.inj h; rfl
  | n :: t, m, s, r, h => by
    unfold pr2 at h
    by_cases hn : n = 0
    · rw [if_pos hn] at h; exact pr2_length x y t _ s r h
    · rw [if_neg hn] at h
      obtain ⟨s', h1, h2⟩ := Option.bind_eq_some_iff.mp h
      rw [pr2_length x y t _ s' r h2]
      unfold addAt at h1
      split at h1
      · cases h1
      · split at h1
        · obtain rfl := Option.some.inj h1; rw [List.length_set]
        · cases h1
theorem pr1_length (o : Int) (ps : List (List Int)) (i : Nat) (x : Int) : ∀ (l : List Int) (k : Nat) (s r : List (Int × Nat)), pr1 o ps i x l k s = some r → r.length = s.length
  | [], _, s, r, h => by obtain rfl := Option.some.inj h; rfl
  | y :: t, k, s, r, h => by
    unfold pr1 at h
    split at h
    · exact pr1_length o ps i x t _ s r h
    · split at h
      · obtain ⟨s', h1, h2⟩ := Option.bind_eq_some_iff.mp h
        rw [pr1_length o ps i x t _ s' r h2, pr2_length _ _ _ _ _ _ h1]
      · cases h
theorem pr0_length (o : Int) (ps : List (List Int)) (b : List Int) : ∀ (l : List Int) (i : Nat) (s r : List (Int × Nat)), pr0 o ps b l i s = some r → r.length = s.length
  | [], _, s, r, h => by obtain rfl := Option.some.inj h; rfl
  | x :: t, i, s, r, h => by
    unfold pr0 at h
    obtain ⟨s', h1, h2⟩ := Option.bind_eq_some_iff.mp h
    rw [pr0_length o ps b t _ s' r h2, pr1_length _ _ _ _ _ _ _ _ h1]
set_option maxHeartbeats 8000000 in
set_option maxRecDepth 100000 in
theorem impl_field_times.calls {g0 : Nat} (a0_0 : Int) (a0_1 : Int) (A0_2 : Option Addr) (c0_2 : Nat) (l0_2 : List (List Int)) (A1 : Option Addr) (c1 : Nat) (l1 : List Int) (A2 : Option Addr) (c2 : Nat) (l2 : List Int) (r1 : List Int) (r2 : Bool) (w : World) (hr0_2 : Kd.C (Kd.slice 2 (Kd.int .i64)) w A0_2 l0_2.length l0_2) (hc0_2 : l0_2.length ≤ c0_2) (hr1 : Kd.C (Kd.int .i64) w A1 l1.length l1) (hc1 : l1.length ≤ c1) (hr2 : Kd.C (Kd.int .i64) w A2 l2.length l2) (hc2 : l2.length ≤ c2)
    (hG0 : w.heap[g0]? = some (.cells #[.int .i64 a0_0, .int .i64 a0_1, .slice A0_2 l0_2.length c0_2] 84 (0, 0))) (h : impl_field_times.f a0_0 a0_1 l0_2 l1 l2 = some (r1, r2)) :
    Calls Try.prog 127 #[.pointer (some ⟨g0, 0, none⟩), .slice A1 l1.length c1, .slice A2 l2.length c2] w fun e w' => ∃ v0_ : Value, e = .returned (.tuple #[v0_, .bool r2]) ∧ Kd.R (Kd.int .i64) 2 w' w.heap.size (fun _ => True) v0_ r1 ∧ Below w.heap.size w w' := by
  unfold impl_field_times.f at h
  by_cases hm : 1 ≤ a0_1 ∧ a0_1 ≤ 8796093022208
  rotate_left
  · rw [if_neg hm] at h; exact absurd h (by simp)
  rw [if_pos hm] at h
  obtain ⟨s, h1, h2⟩ := Option.bind_eq_some_iff.mp h
  have hls : s.length = a0_1.toNat := by
    have h3 := h1
    unfold impl_field_product.f at h3
    split at h3
    · rw [pr0_length _ _ _ _ _ _ _ h3, List.length_replicate]
    · cases h3
  have H1 := Aside0.mk h1
  have H2 := Aside0.mk h2
  have HM := Aside0.mk hm
  have HLS := Aside0.mk hls
  have HR0_2 := Aside0.mk hr0_2
  have HR1 := Aside0.mk hr1
  have HR2 := Aside0.mk hr2
  have HG0 := Aside0.mk hG0
  have HB := Aside0.mk (Below.refl w.heap.size w)
  have hcz0 : w.cell? ⟨g0, 1, none⟩ = some (.int .i64 a0_1) := (blk_cell hG0 1).trans rfl
  have hp0 : (0 ≤ a0_1) = True := eq_true (by omega)
  clear h h1 h2 hm hls hr0_2 hc0_2 hr1 hc1 hr2 hc2 hG0
  go_enter Try.func127, Try.ntmps127
  go_wp2_with (first | ((with_reducible refine gate_dst (N := 13) rfl ?_); refine Kd.R_make sumK _ 146 rfl (N := 13) rfl 137 _ _ rfl a0_1 rfl rfl Try.underlying137 (.agg #[.int .i64 0, .float .f64 0]) 16 infoSum rfl (by decide) (by omega) (0, 0) (ok := fun _ => True) (okp := fun _ => True) sum_zero (fun _ hk => hk) trivial (by have := HM.out; omega) (by have := HM.out; omega) (Below.refl _ _) (Nat.le_refl _) ?_; intro v7 w7 ho8 hb hg_ hnew_; clear hg_ hnew_; have HO := Aside0.mk (Kd.R_lower ho8 (below_size (bk HB.out))); replace HB := hs HB hb; clear hb ho8 hcz0; obtain ⟨go, co, eo, gb, gl, cl, HG⟩ := Kd.R_form HO.out (by have := HM.out; rw [List.length_replicate]; omega); (first | cases eo | (injection eo with ea_ en_ ec_; (first | subst ea_ | (injection ea_ with ea_; subst ea_)); subst ec_; clear en_)); have GB := Aside0.mk gb; clear gb gl HG; rw [List.length_replicate] at HO) | ((with_reducible refine gate_callee (f := 181) rfl ?_); refine gl (some 18) Try.func181 #[.pointer (some ⟨g0, 0, none⟩), .slice (some ⟨go, 0, none⟩) a0_1.toNat co, .slice A1 l1.length c1, .slice A2 l2.length c2] ?_; (with_reducible refine (impl_field_product.calls a0_0 a0_1 A0_2 c0_2 l0_2 (List.replicate a0_1.toNat (0, 0)) A1 c1 l1 A2 c2 l2 s w _ (bk HB.out) GB.out HR0_2.out HR1.out HR2.out HG0.out (rk HO.out) H1.out).mono ?_); rintro e w8 ⟨rfl, hR, hb⟩; refine ⟨_, rfl, ?_⟩; replace HO := Aside0.mk hR; replace HB := Aside0.mk hb; clear hR hb) | ((with_reducible refine gate_callee (f := 182) rfl ?_); refine gl (some 20) Try.func182 #[.slice (some ⟨go, 0, none⟩) a0_1.toNat co] ?_; (with_reducible refine (impl_values.calls r1 r2 _ (rk HO.out) H2.out).mono ?_); rintro e w9 ⟨v, rfl, hR, hb⟩; refine ⟨_, rfl, ?_⟩; have HV := Aside0.mk (Kd.R_lower hR (below_size (bk HB.out))); replace HB := hs HB hb; clear hR hb))
  go_ret2
  exact ⟨_, by first | rfl | (simp; done), rk HV.out, bk HB.out⟩

/-! ### impl_field_whole: function 154 -/
def impl_field_whole.f (a0_0 : Int) (a0_1 : Int) (l0_2 : List (List Int)) (a1 : Int) : Option (List Int) := if 0 ≤ a0_1 then (if (a0_1 : Int).toNat ≤ 35184372088832 then ((some (List.replicate (a0_1 : Int).toNat 0 : List Int)).bind fun y355 => (if 0 < (y355.length : Int) then (some (y355.set (0 : Int).toNat a1)) else (none))) else (none)) else (none)
set_option maxHeartbeats 8000000 in
set_option maxRecDepth 100000 in
theorem impl_field_whole.calls {g0 : Nat} (a0_0 : Int) (a0_1 : Int) (A0_2 : Option Addr) (c0_2 : Nat) (l0_2 : List (List Int)) (a1 : Int) (r : List Int) (w : World) (hr0_2 : Kd.C (Kd.slice 2 (Kd.int .i64)) w A0_2 l0_2.length l0_2) (hc0_2 : l0_2.length ≤ c0_2) (hG0 : w.heap[g0]? = some (.cells #[.int .i64 a0_0, .int .i64 a0_1, .slice A0_2 l0_2.length c0_2] 84 (0, 0))) (h : impl_field_whole.f a0_0 a0_1 l0_2 a1 = some r) :
  Calls Try.prog 154 #[.pointer (some ⟨g0, 0, none⟩), .int .i64 a1] w fun e w' => ∃ v0_ : Value, e = .returned (v0_) ∧ Kd.R (Kd.int .i64) 2 w' w.heap.size (fun _ => True) v0_ r ∧ Below w.heap.size w w' := by
 have HG0 := Aside0.mk hG0
 clear hG0
 have hu84 := Try.underlying84
 have HR0_2 := Aside0.mk hr0_2
 have HC0_2 := Aside0.mk hc0_2
 clear hr0_2 hc0_2
 have HB := Aside0.mk (Below.refl w.heap.size w)
 have H := h
 unfold impl_field_whole.f at H
 clear h
 by_cases c3 : 0 ≤ a0_1
 rotate_left
 ·rw [if_neg c3] at H; exact absurd H (by simp)
 rw [if_pos c3] at H
 have c3b0 := eq_true c3
 have c3b1 : decide (0 ≤ a0_1) = true := decide_eq_true c3
 clear c3
 by_cases c4 : (a0_1 : Int).toNat ≤ 35184372088832
 rotate_left
 ·rw [if_neg c4] at H; exact absurd H (by simp)
 rw [if_pos c4] at H
 have c4b0 := eq_true c4
 have c4b1 : decide ((a0_1 : Int).toNat ≤ 35184372088832) = true := decide_eq_true c4
 clear c4
 obtain ⟨y355, hy355⟩ : ∃ y_ : List Int, y_ = (List.replicate (a0_1 : Int).toNat 0) := ⟨_, rfl⟩
 replace H : (if 0 < (y355.length : Int) then (some (y355.set (0 : Int).toNat a1)) else (none)) = some r := by first | (rw [hy355]; with_reducible exact H) | (have H2_ := (Option.bind_some _ _).symm.trans H; rw [hy355]; with_reducible exact H2_) | (have H2_ := (Option.bind_some _ _).symm.trans H; with_reducible exact H2_) | with_reducible exact H | (rw [hy355]; exact H) | exact H
 have Ny355 := Aside0.mk hy355
 clear hy355
 by_cases c5 : 0 < (y355.length : Int)
 rotate_left
 ·rw [if_neg c5] at H; exact absurd H (by simp)
 rw [if_pos c5] at H
 have c5b0 : decide (0 < (y355.length : Int)) = true := decide_eq_true c5
 have c5b1 : decide (0 < y355.length) = true := decide_eq_true (by omega)
 clear c5
 obtain ⟨y358, hy358⟩ : ∃ y_ : List Int, y_ = (y355.set (0 : Int).toNat a1) := ⟨_, rfl⟩
 replace H : (some y358) = some r := by first | (rw [hy358]; with_reducible exact H) | (have H2_ := (Option.bind_some _ _).symm.trans H; rw [hy358]; with_reducible exact H2_) | (have H2_ := (Option.bind_some _ _).symm.trans H; with_reducible exact H2_) | with_reducible exact H | (rw [hy358]; exact H) | exact H
 have Ny358 := Aside0.mk hy358
 clear hy358
 obtain rfl := Option.some.inj H
 go_enter Try.func154, Try.ntmps154
 have BK354 := HG0
 have hcz8_0 : w.cell? ⟨g0, 0, none⟩ = some (.int .i64 a0_0) := (blk_cell BK354.out 0).trans rfl
 have hcz8_1 : w.cell? ⟨g0, 1, none⟩ = some (.int .i64 a0_1) := (blk_cell BK354.out 1).trans rfl
 have hcz8_2 : w.cell? ⟨g0, 2, none⟩ = some (.slice A0_2 l0_2.length c0_2) := (blk_cell BK354.out 2).trans rfl
 have hfz8_0 := blk_frozen BK354.out 0
 have hfz8_1 := blk_frozen BK354.out 1
 have hfz8_2 := blk_frozen BK354.out 2
 go_wp2_with (first | ((with_reducible refine gate_dst (N := 10) rfl ?_); refine Kd.R_make (Kd.int .i64) _ 2 rfl (N := 10) rfl 22 _ _ rfl a0_1 rfl rfl Try.underlying22 (.int .i64 0) 8 info2 rfl (by decide) (by omega) 0 (ok := fun _ => True) (okp := fun _ => True) rfl (fun _ hk => hk) trivial (of_decide_eq_true (by first | (with_reducible assumption) | assumption)) (Nat.le_trans (Nat.mul_le_mul_right _ (of_decide_eq_true (by first | (with_reducible assumption) | assumption) : a0_1.toNat ≤ 35184372088832)) (by omega)) (Below.refl _ _) (Nat.le_refl _) ?_; intro v356 w9 ho10 hb hg_ hnew_; clear hg_ hnew_; (first | rw [← Ny355.out] at ho10 | (simp only [Int.reduceToNat] at ho10; rw [← Ny355.out] at ho10)); have HO357 := Aside0.mk (Kd.R_lower ho10 (below_size (bks HB.out))); replace BK354 := bb BK354 hb; replace HB := hs HB hb; clear hb ho10; have p6 : 0 ≤ (0 : Int) := (by omega); have q6 : (0 : Int) < ((y355.length : Int) : Int) := of_decide_eq_true (by first | (with_reducible assumption) | assumption); have qi6 : (0 < y355.length) = True := eq_true (by omega); obtain ⟨go6, co6, eo6, gb6, gl6, cl6, HG6⟩ := Kd.R_form HO357.out (by omega); (first | cases eo6 | (injection eo6 with ea_ en_ ec_; (first | subst ea_ | (injection ea_ with ea_; subst ea_)); subst ec_; clear en_)); have GB6 := Aside0.mk gb6; have GG6 := Aside0.mk HG6; clear gb6 gl6 HG6; obtain ⟨hx6_0, hf6_0⟩ := Kd.R_celln 0 HO357.out (0 : Int) p6 q6; (try rw [show ((0 : Int)).toNat = 0 from rfl] at hx6_0); (try simp only [Nat.reduceMul, Nat.zero_mul, Nat.zero_add, Nat.reduceAdd] at hx6_0); (try rw [show ((0 : Int)).toNat = 0 from rfl] at hf6_0); (try simp only [Nat.reduceMul, Nat.zero_mul, Nat.zero_add, Nat.reduceAdd] at hf6_0); replace p6 := eq_true p6; replace q6 := eq_true q6; obtain ⟨hy11_, hz11_⟩ := Kd.R_celln 0 HO357.out (0 : Int) (by omega) (of_decide_eq_true (by first | (with_reducible assumption) | assumption)); (try simp only [Int.reduceToNat, Int.toNat_zero, Int.toNat_ofNat, Nat.reduceMul, Nat.zero_mul, Nat.zero_add] at hy11_ hz11_); (try rw [show ((0 : Int)).toNat = 0 from rfl] at hy11_); (try rw [show ((0 : Int)).toNat = 0 from rfl] at hz11_); have HP11 := Kd.R_putg HO357.out (0 : Int) a1) | ((with_reducible refine gate_store (t := 2) (p := 13) rfl ?_); refine store_event (t := 2) (p := 13) (v := ?vo_w12) (w1 := (w9.setCell ⟨go6, (0 : Int).toNat, none⟩ (.int .i64 a1))) ?hg ?ho ?hn ?hr ?_; (case ho => rfl); (case hg => rfl); (case hn => rfl); (case hr => first | (go_simp; done) | (go_simp; rfl)); intro w12 hw; have hg : w9.grownBy w12 (some go6) := (by rw [hw]; exact HP11.2); have hp_ : Kd.R (Kd.int .i64) 2 w12 w.heap.size (fun _ => True) (.slice (some ⟨go6, 0, none⟩) y355.length co6) y358 := (by rw [hw, Ny358.out]; exact HP11.1); clear HP11; replace BK354 := Aside0.mk (blk_grown (pk BK354.out) hg (Kd.R_ne HO357.out BK354.out (by decide))); replace HO357 := Aside0.mk hp_; replace HB := Aside0.mk (by rw [hw]; exact below_set (HB.out) GB6.out : Below w.heap.size w w12); clear hg hw hp_))
 go_ret
 exact ⟨_, by first | rfl | (simp [errW_none, errW_some] <;> rfl) | (simp [*, errW_none, errW_some] <;> rfl), rk HO357.out, bks HB.out⟩
/-! ### impl_field_all: function 109 -/
def impl_field_all.l0 : Nat → List Int → List (List Int) → Int → Int → Int → Int → List (List Int) → Option (List Int × Bool)
 | 0, _, _, _, _, _, _, _ => none
 | k + 1, x6, x13, x14, x15, x360000, x360001, x360002 => if x15 < x14 then (if 0 ≤ x15 then (if x15 < (x13.length : Int) then ((impl_field_times.f x360000 x360001 x360002 x6 (rd_L1 x13 x15)).bind fun bt364 => (if bt364.2 = true then (impl_field_all.l0 k bt364.1 x13 x14 (wrap64 (x15 + 1)) x360000 x360001 x360002) else (some (([] : List Int), false)))) else (none)) else (none)) else (some (x6, true))
def impl_field_all.f (k : Nat) (a0_0 : Int) (a0_1 : Int) (l0_2 : List (List Int)) (l1 : List (List Int)) : Option (List Int × Bool) := (impl_field_whole.f a0_0 a0_1 l0_2 1).bind fun t360 => (impl_field_all.l0 k t360 l1 (l1.length : Int) 0 a0_0 a0_1 l0_2)
theorem impl_field_all.mono_l : ∀ k, (∀ y0 y1 y2 y3 y4 y5 y6, LeO (impl_field_all.l0 k y0 y1 y2 y3 y4 y5 y6) (impl_field_all.l0 (k + 1) y0 y1 y2 y3 y4 y5 y6))
 | 0 => fun _ _ _ _ _ _ _ r h => by simp [impl_field_all.l0] at h
 | k + 1 => by
  have ih0 := impl_field_all.mono_l k
  ·intro y0 y1 y2 y3 y4 y5 y6
   unfold impl_field_all.l0
   repeat' first | (with_reducible first | exact ih0 _ _ _ _ _ _ _ | exact LeO.refl _ | exact LeO.none _ | refine LeO.ite ?_ ?_ | refine LeO.bind ?_ (fun _ => ?_)) | exact ih0 _ _ _ _ _ _ _ | exact LeO.none _ | refine LeO.ite ?_ ?_ | refine LeO.bind ?_ (fun _ => ?_)
theorem impl_field_all.mono : ∀ a0 a1 a2 a3 k, LeO (impl_field_all.f k a0 a1 a2 a3) (impl_field_all.f (k + 1) a0 a1 a2 a3) := by
 intro a0 a1 a2 a3 k
 have ih0 := impl_field_all.mono_l k
 unfold impl_field_all.f
 repeat' first | (with_reducible first | exact ih0 _ _ _ _ _ _ _ | exact LeO.refl _ | exact LeO.none _ | refine LeO.ite ?_ ?_ | refine LeO.bind ?_ (fun _ => ?_)) | exact ih0 _ _ _ _ _ _ _ | exact LeO.none _ | refine LeO.ite ?_ ?_ | refine LeO.bind ?_ (fun _ => ?_)
set_option maxHeartbeats 8000000 in
set_option maxRecDepth 100000 in
theorem impl_field_all.calls {g0 : Nat} (k : Nat) (a0_0 : Int) (a0_1 : Int) (A0_2 : Option Addr) (c0_2 : Nat) (l0_2 : List (List Int)) (A1 : Option Addr) (c1 : Nat) (l1 : List (List Int)) (r1 : List Int) (r2 : Bool) (w : World) (hr0_2 : Kd.C (Kd.slice 2 (Kd.int .i64)) w A0_2 l0_2.length l0_2) (hc0_2 : l0_2.length ≤ c0_2) (hr1 : Kd.C (Kd.slice 2 (Kd.int .i64)) w A1 l1.length l1) (hc1 : l1.length ≤ c1) (hG0 : w.heap[g0]? = some (.cells #[.int .i64 a0_0, .int .i64 a0_1, .slice A0_2 l0_2.length c0_2] 84 (0, 0))) (h : impl_field_all.f k a0_0 a0_1 l0_2 l1 = some (r1, r2)) :
  Calls Try.prog 109 #[.pointer (some ⟨g0, 0, none⟩), .slice A1 l1.length c1] w fun e w' => ∃ v0_ : Value, e = .returned (.tuple #[v0_, .bool r2]) ∧ Kd.R (Kd.int .i64) 2 w' w.heap.size (fun _ => True) v0_ r1 ∧ Below w.heap.size w w' := by
 have HG0 := Aside0.mk hG0
 clear hG0
 have hu84 := Try.underlying84
 have HR0_2 := Aside0.mk hr0_2
 have HC0_2 := Aside0.mk hc0_2
 clear hr0_2 hc0_2
 have HR1 := Aside0.mk hr1
 have HC1 := Aside0.mk hc1
 clear hr1 hc1
 have HB := Aside0.mk (Below.refl w.heap.size w)
 have H := h
 unfold impl_field_all.f at H
 clear h
 replace H := Option.bind_eq_some_iff.mp H
 obtain ⟨t360, A30, H⟩ := H
 try dsimp only at H
 have A3 := Aside0.mk A30
 clear A30
 have H' := Aside0.mk H
 clear H
 go_enter Try.func109, Try.ntmps109
 have BK359 := HG0
 have hcz5_0 : w.cell? ⟨g0, 0, none⟩ = some (.int .i64 a0_0) := (blk_cell BK359.out 0).trans rfl
 have hcz5_1 : w.cell? ⟨g0, 1, none⟩ = some (.int .i64 a0_1) := (blk_cell BK359.out 1).trans rfl
 have hcz5_2 : w.cell? ⟨g0, 2, none⟩ = some (.slice A0_2 l0_2.length c0_2) := (blk_cell BK359.out 2).trans rfl
 have hfz5_0 := blk_frozen BK359.out 0
 have hfz5_1 := blk_frozen BK359.out 1
 have hfz5_2 := blk_frozen BK359.out 2
 go_wp2_with (first | ((with_reducible refine gate_callee (f := 154) rfl ?_); refine gl (some 12) Try.func154 #[.pointer (some ⟨g0, 0, none⟩), .int .i64 1] ?_; (with_reducible refine (impl_field_whole.calls a0_0 a0_1 A0_2 c0_2 l0_2 1 t360 _ ?side1 ?side2 ?sG A3.out).mono ?_); (case sG => exact blk_below HG0.out (bks HB.out)); (case side1 => repeat (first | exact (Kd.C_below HR0_2.out HB.out) | (with_reducible refine Kd.C_alloc ?_ _) | (with_reducible refine Kd.C_drewN ?_ _) | (with_reducible refine Kd.C_drew ?_))); (case side2 => exact HC0_2.out); rintro e w6 ⟨v361, rfl, ho0, hb⟩; refine ⟨_, rfl, ?_⟩; have HO362 := Aside0.mk (Kd.R_lower ho0 (below_size (bks HB.out))); replace BK359 := bb BK359 hb; replace HB := hs HB hb; (try clear hb ho0)))
 go_loopg [6, 15] k (fun kq v6 v15 w' => ∃ (x6_1 : List Int) (x15_1 : Int), v15 = .int .i64 x15_1 ∧ Aside0 (impl_field_all.l0 kq x6_1 l1 (l1.length : Int) x15_1 a0_0 a0_1 l0_2 = some (r1, r2)) ∧ Aside0 (kq ≤ k) ∧ Aside0 (Kd.R (Kd.int .i64) 2 w' w.heap.size (fun _ => True) v6 x6_1) ∧ Aside0 (w'.heap[g0]? = some (.cells #[.int .i64 a0_0, .int .i64 a0_1, (.slice A0_2 l0_2.length c0_2)] 84 (0, 0))) ∧ Aside0 (Below w.heap.size w w'))
 case atStart => exact ⟨(t360), (0), (by first | rfl | (simp; done) | (simp [*]; done)), H', ⟨Nat.le_refl _⟩, ⟨rk HO362.out⟩, ⟨pk BK359.out⟩, ⟨bks HB.out⟩⟩
 case round =>
  clear H'
  try clear c1; try clear p2; try clear hcz5_0; try clear hcz5_1; try clear hcz5_2; try clear hfz5_0; try clear hfz5_1; try clear hfz5_2
  obtain ⟨x6_1, x15_1, rfl, HA, HK1, HO_6, BK359, HB⟩ := hrel
  cases gk with
  | zero => exact absurd HA.out (by simp [impl_field_all.l0])
  | succ k1 =>
   have H := HA.out
   clear HA
   simp only [impl_field_all.l0] at H
   by_cases c7 : x15_1 < (l1.length : Int)
   ·rw [if_pos c7] at H
    have c7b0 : decide (x15_1 < (l1.length : Int)) = true := decide_eq_true c7
    clear c7
    by_cases c8 : 0 ≤ x15_1
    rotate_left
    ·rw [if_neg c8] at H; exact absurd H (by simp)
    rw [if_pos c8] at H
    have c8b0 : decide (0 ≤ x15_1) = true := decide_eq_true c8
    clear c8
    by_cases c9 : x15_1 < (l1.length : Int)
    rotate_left
    ·rw [if_neg c9] at H; exact absurd H (by simp)
    rw [if_pos c9] at H
    have c9b0 : decide (x15_1 < (l1.length : Int)) = true := decide_eq_true c9
    clear c9
    replace H := Option.bind_eq_some_iff.mp H
    obtain ⟨⟨t364, t367⟩, A100, H⟩ := H
    try dsimp only at H
    have A10 := Aside0.mk A100
    clear A100
    by_cases c11 : t367 = true
    ·subst c11
     have H1 : (impl_field_all.l0 k1 t364 l1 (l1.length : Int) (wrap64 (x15_1 + 1)) a0_0 a0_1 l0_2) = some (r1, r2) := by rw [if_pos rfl] at H; exact H
     clear H
     have H := H1
     clear H1
     have H' := Aside0.mk H
     clear H
     have p363 : 0 ≤ (x15_1 : Int) := of_decide_eq_true (by first | (with_reducible assumption) | assumption)
     have q363 : x15_1 < (l1.length : Int) := of_decide_eq_true (by first | (with_reducible assumption) | assumption)
     obtain ⟨ad363, A363_0, c363_0, e363, hx363_0, hl363_0, hi363_0⟩ := at_L1 HR1.out x15_1 p363 q363
     cases e363
     replace hx363_0 := (HB.out.cell (World.block_lt_of_cell? w _ hx363_0)).trans hx363_0
     have HR363_0 := Aside0.mk hi363_0
     have HC363_0 := Aside0.mk hl363_0
     clear hi363_0 hl363_0
     replace p363 := eq_true p363
     replace q363 := eq_true q363
     have hcz12_0 : wr.cell? ⟨g0, 0, none⟩ = some (.int .i64 a0_0) := (blk_cell BK359.out 0).trans rfl
     have hcz12_1 : wr.cell? ⟨g0, 1, none⟩ = some (.int .i64 a0_1) := (blk_cell BK359.out 1).trans rfl
     have hcz12_2 : wr.cell? ⟨g0, 2, none⟩ = some (.slice A0_2 l0_2.length c0_2) := (blk_cell BK359.out 2).trans rfl
     have hfz12_0 := blk_frozen BK359.out 0
     have hfz12_1 := blk_frozen BK359.out 1
     have hfz12_2 := blk_frozen BK359.out 2
     obtain ⟨Ao13, co13, eo13⟩ := Kd.R_slice HO_6.out
     subst eo13
     go_wp2_with (first | ((with_reducible refine gate_callee (f := 127) rfl ?_); refine gl (some 23) Try.func127 #[.pointer (some ⟨g0, 0, none⟩), .slice Ao13 x6_1.length co13, .slice A363_0 (rd_L1 l1 x15_1).length c363_0] ?_; (with_reducible refine (impl_field_times.calls a0_0 a0_1 A0_2 c0_2 l0_2 _ _ x6_1 _ _ (rd_L1 l1 x15_1) t364 true _ ?side1 ?side2 ?side3 ?side4 ?side5 ?side6 ?sG A10.out).mono ?_); (case sG => exact blk_below HG0.out (bks HB.out)); (case side1 => repeat (first | exact (Kd.C_below HR0_2.out HB.out) | (with_reducible refine Kd.C_alloc ?_ _) | (with_reducible refine Kd.C_drewN ?_ _) | (with_reducible refine Kd.C_drew ?_))); (case side2 => exact HC0_2.out); (case side3 => repeat (first | exact (Kd.R_reads' HO_6.out).2.2 | (with_reducible refine Kd.C_alloc ?_ _) | (with_reducible refine Kd.C_drewN ?_ _) | (with_reducible refine Kd.C_drew ?_))); (case side4 => exact (Kd.R_reads' HO_6.out).2.1); (case side5 => repeat (first | exact (Kd.C_below HR363_0.out HB.out) | (with_reducible refine Kd.C_alloc ?_ _) | (with_reducible refine Kd.C_drewN ?_ _) | (with_reducible refine Kd.C_drew ?_))); (case side6 => exact HC363_0.out); rintro e w14 ⟨v365, rfl, ho0, hb⟩; refine ⟨_, rfl, ?_⟩; have HO366 := Aside0.mk (Kd.R_lower (Kd.R_new' ho0 (Kd.R_lt (rk HO_6.out))) (below_size (bks HB.out))); replace HO_6 := re HO_6 ho0 hb; replace BK359 := bb BK359 hb; replace HB := hs HB hb; (try clear hb ho0)))
     go_roundg k1
     case measure => have := HK1.out; omega
     case rel => exact ⟨(t364), (wrap64 (x15_1 + 1)), (by first | rfl | (simp; done) | (simp [*]; done)), H', ⟨by have := HK1.out; omega⟩, ⟨rk (Kd.R_mono HO366.out (fun _ hk => trivial))⟩, ⟨pk BK359.out⟩, ⟨bks HB.out⟩⟩
    ·replace c11 := Bool.eq_false_iff.mpr c11
     subst c11
     have H1 : (some (([] : List Int), false)) = some (r1, r2) := by rw [if_neg (show ¬ (false = true) by decide)] at H; exact H
     clear H
     have H := H1
     clear H1
     simp only [Option.some.injEq, Prod.mk.injEq] at H
     obtain ⟨rfl, rfl⟩ := H
     have p363 : 0 ≤ (x15_1 : Int) := of_decide_eq_true (by first | (with_reducible assumption) | assumption)
     have q363 : x15_1 < (l1.length : Int) := of_decide_eq_true (by first | (with_reducible assumption) | assumption)
     obtain ⟨ad363, A363_0, c363_0, e363, hx363_0, hl363_0, hi363_0⟩ := at_L1 HR1.out x15_1 p363 q363
     cases e363
     replace hx363_0 := (HB.out.cell (World.block_lt_of_cell? w _ hx363_0)).trans hx363_0
     have HR363_0 := Aside0.mk hi363_0
     have HC363_0 := Aside0.mk hl363_0
     clear hi363_0 hl363_0
     replace p363 := eq_true p363
     replace q363 := eq_true q363
     have hcz15_0 : wr.cell? ⟨g0, 0, none⟩ = some (.int .i64 a0_0) := (blk_cell BK359.out 0).trans rfl
     have hcz15_1 : wr.cell? ⟨g0, 1, none⟩ = some (.int .i64 a0_1) := (blk_cell BK359.out 1).trans rfl
     have hcz15_2 : wr.cell? ⟨g0, 2, none⟩ = some (.slice A0_2 l0_2.length c0_2) := (blk_cell BK359.out 2).trans rfl
     have hfz15_0 := blk_frozen BK359.out 0
     have hfz15_1 := blk_frozen BK359.out 1
     have hfz15_2 := blk_frozen BK359.out 2
     obtain ⟨Ao16, co16, eo16⟩ := Kd.R_slice HO_6.out
     subst eo16
     go_wp2_with (first | ((with_reducible refine gate_callee (f := 127) rfl ?_); refine gl (some 23) Try.func127 #[.pointer (some ⟨g0, 0, none⟩), .slice Ao16 x6_1.length co16, .slice A363_0 (rd_L1 l1 x15_1).length c363_0] ?_; (with_reducible refine (impl_field_times.calls a0_0 a0_1 A0_2 c0_2 l0_2 _ _ x6_1 _ _ (rd_L1 l1 x15_1) t364 false _ ?side1 ?side2 ?side3 ?side4 ?side5 ?side6 ?sG A10.out).mono ?_); (case sG => exact blk_below HG0.out (bks HB.out)); (case side1 => repeat (first | exact (Kd.C_below HR0_2.out HB.out) | (with_reducible refine Kd.C_alloc ?_ _) | (with_reducible refine Kd.C_drewN ?_ _) | (with_reducible refine Kd.C_drew ?_))); (case side2 => exact HC0_2.out); (case side3 => repeat (first | exact (Kd.R_reads' HO_6.out).2.2 | (with_reducible refine Kd.C_alloc ?_ _) | (with_reducible refine Kd.C_drewN ?_ _) | (with_reducible refine Kd.C_drew ?_))); (case side4 => exact (Kd.R_reads' HO_6.out).2.1); (case side5 => repeat (first | exact (Kd.C_below HR363_0.out HB.out) | (with_reducible refine Kd.C_alloc ?_ _) | (with_reducible refine Kd.C_drewN ?_ _) | (with_reducible refine Kd.C_drew ?_))); (case side6 => exact HC363_0.out); rintro e w17 ⟨v365, rfl, ho0, hb⟩; refine ⟨_, rfl, ?_⟩; have HO366 := Aside0.mk (Kd.R_lower (Kd.R_new' ho0 (Kd.R_lt (rk HO_6.out))) (below_size (bks HB.out))); replace HO_6 := re HO_6 ho0 hb; replace BK359 := bb BK359 hb; replace HB := hs HB hb; (try clear hb ho0)))
     go_ret2
     exact ⟨_, by first | rfl | (simp [errW_none, errW_some] <;> rfl) | (simp [*, errW_none, errW_some] <;> rfl), by first | exact Kd.R_nil _ _ _ _ _ | exact Kd.N_nil _ _ _ _ _ | exact Kd.V_nil _ _ _ _ _ | exact Kd.Q_nil _ _ _ _ _ | exact Kd.S_nil _ _ _ _ _, bks HB.out⟩
   ·rw [if_neg c7] at H
    have c7b0 : decide (x15_1 < (l1.length : Int)) = false := decide_eq_false c7
    clear c7
    simp only [Option.some.injEq, Prod.mk.injEq] at H
    obtain ⟨rfl, rfl⟩ := H
    go_wp2
    go_ret2
    exact ⟨_, by first | rfl | (simp [errW_none, errW_some] <;> rfl) | (simp [*, errW_none, errW_some] <;> rfl), rk HO_6.out, bks HB.out⟩

/-! ### impl_cycloOf: function 110 -/
def impl_cycloOf.f (a0 : Int) (l1 : List Int) : Option (Int × List Int × Int) := (impl_areSmall.f l1 1000000000).bind fun t369 => (if t369 = true then (some (a0, l1, 0)) else (some (0, ([] : List Int), 3)))
set_option maxHeartbeats 8000000 in
set_option maxRecDepth 100000 in
theorem impl_cycloOf.calls (a0 : Int) (P1_ : Nat → Prop) (u9000_ : Value) (l1 : List Int) (r1 : Int) (r2 : List Int) (r3 : Int) (w0 w : World) (hB : Below w0.heap.size w0 w) (ho1 : Kd.R (Kd.int .i64) 2 w w0.heap.size P1_ u9000_ l1) (h : impl_cycloOf.f a0 l1 = some (r1, r2, r3)) :
  Calls Try.prog 110 #[.int .i64 a0, u9000_] w fun e w' => ∃ v1_ : Value, e = .returned (.tuple #[.agg #[.int .i64 r1, v1_], .int .i64 r3]) ∧ Kd.R (Kd.int .i64) 2 w' w0.heap.size (fun k_ => (P1_ k_ ∨ w.heap.size ≤ k_)) v1_ r2 ∧ Below w0.heap.size w0 w' ∧ Kept w w' (fun k_ => P1_ k_) := by
 have hu29 := Try.underlying29
 have HO1 := Aside0.mk (show Kd.R (Kd.int .i64) 2 w w0.heap.size (fun k_ => (P1_ k_ ∨ w.heap.size ≤ k_)) u9000_ l1 from Kd.R_mono ho1 (fun k_ hk => (.inl hk)))
 have HK := Aside0.mk (Kept.refl w (fun k_ => P1_ k_))
 have HW0 := Aside0.mk hB.size
 have HB := Aside0.mk hB
 clear hB
 have H := h
 unfold impl_cycloOf.f at H
 clear h
 replace H := Option.bind_eq_some_iff.mp H
 obtain ⟨t369, A30, H⟩ := H
 try dsimp only at H
 have A3 := Aside0.mk A30
 clear A30
 by_cases c4 : t369 = true
 ·subst c4
  have H1 : (some (a0, l1, 0)) = some (r1, r2, r3) := by rw [if_pos rfl] at H; exact H
  clear H
  have H := H1
  clear H1
  simp only [Option.some.injEq, Prod.mk.injEq] at H
  obtain ⟨rfl, rfl, rfl⟩ := H
  go_enter Try.func110, Try.ntmps110
  go_wp2_with (first | ((with_reducible refine gate_dst (N := 4) rfl ?_); refine bx 4 #[.int .i64 0, .slice none 0 0] 29 (fun gb368 hg w5 hbox hb => ?_); have BK368 := Aside0.mk hbox; have GW368 := Aside0.mk (by rw [hg]; exact (by first | exact HK.out.1 | exact (show Kept w _ (fun k_ => P1_ k_) from by repeat (first | (with_reducible first | exact HK.out | apply Kept.alloc | apply Kept.drewN | apply Kept.drew) | exact HK.out)).1) : w.heap.size ≤ gb368); have GE368 := Aside0.mk (by rw [hg]; exact (below_size (bk HB.out)) : w0.heap.size ≤ gb368); replace HO1 := rb HO1 hb; replace HK := Aside0.mk (Kept.below (S := (fun k_ => P1_ k_)) (by repeat (first | (with_reducible first | exact HK.out | apply Kept.alloc | apply Kept.drewN | apply Kept.drew) | exact HK.out)) hb); replace HB := hs HB hb; clear hb hbox hg; obtain ⟨Ao6, co6, eo6⟩ := Kd.R_slice HO1.out; subst eo6) | ((with_reducible refine gate_callee (f := 168) rfl ?_); refine gl (some 7) Try.func168 #[.slice Ao6 l1.length co6, .int .i64 1000000000] ?_; (with_reducible refine (impl_areSmall.calls _ _ l1 1000000000 true _ ?side1 ?side2 A3.out).mono ?_); (case side1 => repeat (first | exact (Kd.R_reads' HO1.out).2.2 | (with_reducible refine Kd.C_alloc ?_ _) | (with_reducible refine Kd.C_drewN ?_ _) | (with_reducible refine Kd.C_drew ?_))); (case side2 => exact (Kd.R_reads' HO1.out).2.1); rintro e w7 ⟨rfl, hb⟩; refine ⟨_, rfl, ?_⟩; replace HO1 := rb HO1 hb; replace BK368 := bb BK368 hb; replace HK := Aside0.mk (Kept.below (S := (fun k_ => P1_ k_)) (by repeat (first | (with_reducible first | exact HK.out | apply Kept.alloc | apply Kept.drewN | apply Kept.drew | refine Kept.setCell ?_ (.inr GW368.out) _) | exact HK.out)) hb); replace HB := hs HB hb; (try clear hb); have hcz8_0 : w7.cell? ⟨gb368, 0, none⟩ = some (.int .i64 0) := (blk_cell BK368.out 0).trans rfl; have hcz8_1 : w7.cell? ⟨gb368, 1, none⟩ = some (.slice none 0 0) := (blk_cell BK368.out 1).trans rfl; have hfz8_0 := blk_frozen BK368.out 0; have hfz8_1 := blk_frozen BK368.out 1))
  refine bodyPost_ret (results_ct rfl _ _ gb368 29 #[.int .i64 a0, .slice Ao6 l1.length co6] (0, 0) _ rfl (by (with_reducible repeat (first | refine blk_drewN ?_ _ | refine blk_drew ?_ | refine blk_alloc ?_ _)); refine blk_put (cs := #[.int .i64 a0, .slice none 0 0]) ?_ 1 _ rfl; (with_reducible repeat (first | refine blk_drewN ?_ _ | refine blk_drew ?_ | refine blk_alloc ?_ _)); refine blk_put (cs := #[.int .i64 0, .slice none 0 0]) ?_ 0 _ rfl; (with_reducible repeat (first | refine blk_drewN ?_ _ | refine blk_drew ?_ | refine blk_alloc ?_ _)); exact BK368.out) Try.underlying29 rfl (by kernel_rfl)) rfl ?_
  exact ⟨_, by first | rfl | (simp [errW_none, errW_some] <;> rfl) | (simp [*, errW_none, errW_some] <;> rfl), by (with_reducible repeat (first | apply Kd.R_alloc | apply Kd.R_drewN | apply Kd.R_drew)); exact Kd.R_mono (Kd.R_far (p := ⟨gb368, 1, none⟩) (Kd.R_far (p := ⟨gb368, 0, none⟩) (Kd.R_types HO1.out BK368.out (by decide)) (fun _ hk => hk.2) (.int .i64 a0)) (fun _ hk => hk.2) (.slice Ao6 l1.length co6)) (fun _ hk => hk.1), bks HB.out, by repeat (first | (with_reducible first | exact HK.out | apply Kept.alloc | apply Kept.drewN | apply Kept.drew | refine Kept.setCell ?_ (.inr GW368.out) _) | exact HK.out)⟩
 ·replace c4 := Bool.eq_false_iff.mpr c4
  subst c4
  have H1 : (some (0, ([] : List Int), 3)) = some (r1, r2, r3) := by rw [if_neg (show ¬ (false = true) by decide)] at H; exact H
  clear H
  have H := H1
  clear H1
  simp only [Option.some.injEq, Prod.mk.injEq] at H
  obtain ⟨rfl, rfl, rfl⟩ := H
  go_enter Try.func110, Try.ntmps110
  go_wp2_with (first | ((with_reducible refine gate_dst (N := 4) rfl ?_); refine bx 4 #[.int .i64 0, .slice none 0 0] 29 (fun gb368 hg w9 hbox hb => ?_); have BK368 := Aside0.mk hbox; have GW368 := Aside0.mk (by rw [hg]; exact (by first | exact HK.out.1 | exact (show Kept w _ (fun k_ => P1_ k_) from by repeat (first | (with_reducible first | exact HK.out | apply Kept.alloc | apply Kept.drewN | apply Kept.drew) | exact HK.out)).1) : w.heap.size ≤ gb368); have GE368 := Aside0.mk (by rw [hg]; exact (below_size (bk HB.out)) : w0.heap.size ≤ gb368); replace HO1 := rb HO1 hb; replace HK := Aside0.mk (Kept.below (S := (fun k_ => P1_ k_)) (by repeat (first | (with_reducible first | exact HK.out | apply Kept.alloc | apply Kept.drewN | apply Kept.drew) | exact HK.out)) hb); replace HB := hs HB hb; clear hb hbox hg; obtain ⟨Ao10, co10, eo10⟩ := Kd.R_slice HO1.out; subst eo10) | ((with_reducible refine gate_callee (f := 168) rfl ?_); refine gl (some 7) Try.func168 #[.slice Ao10 l1.length co10, .int .i64 1000000000] ?_; (with_reducible refine (impl_areSmall.calls _ _ l1 1000000000 false _ ?side1 ?side2 A3.out).mono ?_); (case side1 => repeat (first | exact (Kd.R_reads' HO1.out).2.2 | (with_reducible refine Kd.C_alloc ?_ _) | (with_reducible refine Kd.C_drewN ?_ _) | (with_reducible refine Kd.C_drew ?_))); (case side2 => exact (Kd.R_reads' HO1.out).2.1); rintro e w11 ⟨rfl, hb⟩; refine ⟨_, rfl, ?_⟩; replace HO1 := rb HO1 hb; replace BK368 := bb BK368 hb; replace HK := Aside0.mk (Kept.below (S := (fun k_ => P1_ k_)) (by repeat (first | (with_reducible first | exact HK.out | apply Kept.alloc | apply Kept.drewN | apply Kept.drew | refine Kept.setCell ?_ (.inr GW368.out) _) | exact HK.out)) hb); replace HB := hs HB hb; (try clear hb); have hcz12_0 : w11.cell? ⟨gb368, 0, none⟩ = some (.int .i64 0) := (blk_cell BK368.out 0).trans rfl; have hcz12_1 : w11.cell? ⟨gb368, 1, none⟩ = some (.slice none 0 0) := (blk_cell BK368.out 1).trans rfl; have hfz12_0 := blk_frozen BK368.out 0; have hfz12_1 := blk_frozen BK368.out 1))
  refine bodyPost_ret (results_ct rfl _ _ gb368 29 #[.int .i64 0, .slice none 0 0] (0, 0) _ rfl (by (with_reducible repeat (first | refine blk_drewN ?_ _ | refine blk_drew ?_ | refine blk_alloc ?_ _)); refine blk_put (cs := #[.int .i64 0, .slice none 0 0]) ?_ 1 _ rfl; (with_reducible repeat (first | refine blk_drewN ?_ _ | refine blk_drew ?_ | refine blk_alloc ?_ _)); refine blk_put (cs := #[.int .i64 0, .slice none 0 0]) ?_ 0 _ rfl; (with_reducible repeat (first | refine blk_drewN ?_ _ | refine blk_drew ?_ | refine blk_alloc ?_ _)); exact BK368.out) Try.underlying29 rfl (by kernel_rfl)) rfl ?_
  exact ⟨_, by first | rfl | (simp [errW_none, errW_some] <;> rfl) | (simp [*, errW_none, errW_some] <;> rfl), by first | exact Kd.R_nil _ _ _ _ _ | exact Kd.N_nil _ _ _ _ _ | exact Kd.V_nil _ _ _ _ _ | exact Kd.Q_nil _ _ _ _ _ | exact Kd.S_nil _ _ _ _ _, bks HB.out, by repeat (first | (with_reducible first | exact HK.out | apply Kept.alloc | apply Kept.drewN | apply Kept.drew | refine Kept.setCell ?_ (.inr GW368.out) _) | exact HK.out)⟩

end Go.Proofs.Ytdnpkbhapdkikaa.PFnExactActOnCyclo
