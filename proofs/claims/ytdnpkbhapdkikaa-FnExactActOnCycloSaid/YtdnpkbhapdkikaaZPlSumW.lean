/- Rows of sums (a whole number in 64 bits, and nearly what it is): the kind, and what a store into one leaves. -/
import Derived.Test.YtdnpkbhapdkikaaZPlHand
import Derived.Test.YtdnpkbhapdkikaaZPlFloat
import Derived.Laws.Cover2
import Derived.Laws.FloatArith
set_option linter.unusedVariables false
namespace Go.Proofs.YtdnpkbhapdkikaaW.PrintLast
open Go.RowKit Go.Proofs.YtdnpkbhapdkikaaW.PrintWords Go.Proofs.Ytdnpkbhapdkikaa.Plain
/-- The float b is the whole number T, but for the rounding of c steps. -/
def Near (b : Nat) (T : Int) (c : Nat) : Prop := ∃ n, Fl.Is b n ∧ (n - T).natAbs ≤ c * 2 ^ 41
def SumAt (x : Int × Nat) (cs : List Value) : Prop := ∃ b, cs = [.int .i64 (wrap64 x.1), .float .f64 b] ∧ Near b x.1 x.2
def sumK : Kd (Int × Nat) where
  sz := 2
  E := []
  K := fun _ x cs => SumAt x cs
  M := fun _ _ _ x cs => SumAt x cs
  K_len := by rintro w x cs ⟨b, rfl, _⟩; rfl
  K_one := by
    rintro w x cs ⟨b, rfl, _⟩ u hu
    rcases List.mem_cons.1 hu with rfl | hu
    · rfl
    · rw [List.mem_singleton.1 hu]; rfl
  K_below := fun _ h => h
  K_of_M := fun h => h
  M_mono := fun _ h => h
  M_bound := fun h => h
  M_move := fun _ h => h
  M_lower := fun _ h => h
theorem near_zero : Near 0 0 0 := ⟨0, Fl.is_zero, by decide⟩
/-- One step: a product is added. -/
theorem near_add {b : Nat} {T : Int} {c : Nat} (h : Near b T c) {x y : Int} (hx : x.natAbs < 2 ^ 53) (hy : y.natAbs < 2 ^ 53) (hxy : (x * y).natAbs < 2 ^ 86) (hT : T.natAbs < 2 ^ 86) (hc : c < 2 ^ 40) :
    ∃ p s, Ieee.double.mul (FloatKind.f64.nearest x) (FloatKind.f64.nearest y) = some p ∧ Ieee.double.add b p = some s ∧ Near s (T + x * y) (c + 1) := by
  obtain ⟨n, hn, he⟩ := h
  have hfx : Fl.Is (FloatKind.f64.nearest x) x := Fl.is_of_int x hx
  have hfy : Fl.Is (FloatKind.f64.nearest y) y := Fl.is_of_int y hy
  obtain ⟨p, m, h1, h2, h3⟩ := Fl.is_product hfx hfy (by omega)
  obtain ⟨s, q, h4, h5, h6⟩ := Fl.is_sum hn h2 (by omega)
  exact ⟨p, s, h1, h4, q, h5, by omega⟩
section
variable {e base g n cap : Nat} {ok : Nat → Prop} {W : World} {xs : List (Int × Nat)}
def SumCells (cur : Array Value) (m : Nat) (x : Int × Nat) : Prop := ∃ b, cur[2 * m]? = some (.int .i64 (wrap64 x.1)) ∧ cur[2 * m + 1]? = some (.float .f64 b) ∧ Near b x.1 x.2
theorem sumAt_iff (cur : Array Value) (k m : Nat) (x : Int × Nat) (hk : 2 * m + 2 ≤ k) (hs : k ≤ cur.size) : SumAt x (((cur.toList.take k).drop (m * 2)).take 2) ↔ SumCells cur m x := by
  have h0 : ∀ j, j < 2 → (((cur.toList.take k).drop (m * 2)).take 2)[j]? = cur[2 * m + j]? := by
    intro j hj
    rw [List.getElem?_take, if_pos hj, List.getElem?_drop, List.getElem?_take, if_pos (by omega), show m * 2 + j = 2 * m + j by omega]
    simp
  have hl : (((cur.toList.take k).drop (m * 2)).take 2).length = 2 := by simp; omega
  constructor
  · rintro ⟨b, hb, hN⟩
    have a0 := h0 0 (by omega)
    have a1 := h0 1 (by omega)
    rw [hb] at a0 a1
    exact ⟨b, a0.symm, a1.symm, hN⟩
  · rintro ⟨b, c0, c1, hN⟩
    refine ⟨b, ?_, hN⟩
    apply List.ext_getElem?
    intro j
    rcases Nat.lt_or_ge j 2 with hj | hj
    · rw [h0 j hj]
      match j, hj with
      | 0, _ => exact c0
      | 1, _ => exact c1
    · rw [List.getElem?_eq_none (by omega), List.getElem?_eq_none (by simpa using hj)]
theorem sum_row (h : sumK.R e W base ok (.slice (some ⟨g, 0, none⟩) n cap) xs) : ∃ cur : Array Value, n = xs.length ∧ base ≤ g ∧ W.heap[g]? = some (.cells cur e (0, 0)) ∧ (∀ m x, xs[m]? = some x → SumCells cur m x) ∧
    ∀ (W' : World) (cur' : Array Value) (ys : List (Int × Nat)), W'.heap[g]? = some (.cells cur' e (0, 0)) → cur'.size = cur.size → ys.length = xs.length → (∀ m x, ys[m]? = some x → SumCells cur' m x) → sumK.R e W' base ok (.slice (some ⟨g, 0, none⟩) n cap) ys := by
  obtain ⟨h0, inner, ⟨hlen, ho⟩, hr⟩ := h
  rcases ho with ⟨hv, _⟩ | ⟨g', cap', cur, hv, hb, hh, hnc, hcm, hcs, htk⟩
  · exfalso; injection hv with h1; cases h1
  injection hv with h1 h2 h3
  injection h1 with h1
  injection h1 with h1
  subst h1; subst h2; subst h3
  have hs2 : sumK.sz = 2 := rfl
  rw [hs2] at hcs htk hlen
  have hle : xs.length * 2 ≤ cap * 2 := Nat.mul_le_mul_right _ hnc
  refine ⟨cur, rfl, hb, hh, fun m x hm => ?_, fun W' cur' ys hh' hs' hl' hc' => ⟨h0, cur'.toList.take (ys.length * 2), ⟨?_, .inr ⟨g, cap, cur', ?_, hb, hh', ?_, hcm, ?_, rfl⟩⟩, ?_, fun m x hm => ?_⟩⟩
  · have hml : m < xs.length := by
      rcases Nat.lt_or_ge m xs.length with h | h
      · exact h
      · rw [List.getElem?_eq_none h] at hm; cases hm
    have := hr.2 m x hm
    rw [hs2, ← htk] at this
    exact (sumAt_iff cur _ m x (by omega) (by omega)).1 this
  · have hz : cur'.toList.length = cur'.size := by simp
    rw [hs2, List.length_take, hz]; omega
  · rw [hl']
  · rw [hl']; exact hnc
  · rw [hs2, hs', hcs]
  · have hz : cur'.toList.length = cur'.size := by simp
    rw [hs2, List.length_take, hz]; omega
  · have hml : m < ys.length := by
      rcases Nat.lt_or_ge m ys.length with h | h
      · exact h
      · rw [List.getElem?_eq_none h] at hm; cases hm
    rw [hs2]
    exact (sumAt_iff cur' _ m x (by omega) (by omega)).2 (hc' m x hm)
/-- What two stores into an element leave. -/
theorem sum_put (h : sumK.R e W base ok (.slice (some ⟨g, 0, none⟩) n cap) xs) (m : Nat) (x : Int × Nat) (hm : m < xs.length) (b : Nat) (hb : Near b x.1 x.2) :
    let W' := (W.setCell ⟨g, 2 * m, none⟩ (.int .i64 (wrap64 x.1))).setCell ⟨g, 2 * m + 1, none⟩ (.float .f64 b)
    sumK.R e W' base ok (.slice (some ⟨g, 0, none⟩) n cap) (xs.set m x) ∧ W.grownBy W' (some g) ∧ ∀ B w0, Below B w0 W → B ≤ g → Below B w0 W' := by
  obtain ⟨cur, hn, hbg, hh, hc, hback⟩ := sum_row h
  have h1 := blk_put hh (2 * m) (.int .i64 (wrap64 x.1)) rfl
  have h2 := blk_put h1 (2 * m + 1) (.float .f64 b) rfl
  have hsz : 2 * m + 1 < cur.size := by
    obtain ⟨_, _, c1, _⟩ := hc m _ (List.getElem?_eq_getElem hm)
    exact (Array.getElem?_eq_some_iff.1 c1).1
  refine ⟨hback _ _ (xs.set m x) h2 (by simp) (by simp) (fun j y hj => ?_), ⟨rfl, rfl, rfl, by simp [World.setCell], fun k hk hne => ?_⟩, fun B w0 hB hg => hB.trans ⟨rfl, rfl, rfl, by simp [World.setCell], fun k hk => (Below.heap_setCell _ _ _ _ (by show k ≠ g; omega)).trans (Below.heap_setCell _ _ _ _ (by show k ≠ g; omega))⟩⟩
  · by_cases hjm : j = m
    · subst hjm
      rw [List.getElem?_set_self hm] at hj
      obtain rfl := Option.some.inj hj
      refine ⟨b, ?_, ?_, hb⟩
      · rw [Array.getElem?_setIfInBounds_ne (by omega), Array.getElem?_setIfInBounds_self_of_lt (by omega)]
      · rw [Array.getElem?_setIfInBounds_self_of_lt (by simpa using hsz)]
    · rw [List.getElem?_set_ne (Ne.symm hjm)] at hj
      obtain ⟨b', c0, c1, hN⟩ := hc j y hj
      refine ⟨b', ?_, ?_, hN⟩
      · rw [Array.getElem?_setIfInBounds_ne (by omega), Array.getElem?_setIfInBounds_ne (by omega)]; exact c0
      · rw [Array.getElem?_setIfInBounds_ne (by omega), Array.getElem?_setIfInBounds_ne (by omega)]; exact c1
  · have hkg : k ≠ g := fun e => hne (by rw [e])
    exact (Below.heap_setCell _ _ _ _ hkg).trans (Below.heap_setCell _ _ _ _ hkg)
end
end Go.Proofs.YtdnpkbhapdkikaaW.PrintLast
