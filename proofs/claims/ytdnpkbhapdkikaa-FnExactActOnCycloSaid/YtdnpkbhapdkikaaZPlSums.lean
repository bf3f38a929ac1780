/- Sums of whole numbers up to multiples of 2^64, and the sums over what a group ring's loops do: plain facts. -/
import Derived.Test.YtdnpkbhapdkikaaZPlMul
set_option linter.unusedVariables false
set_option linter.unusedSimpArgs false
namespace Go.Proofs.Ytdnpkbhapdkikaa.Plain
open Go.RowKit Go.Proofs.YtdnpkbhapdkikaaW.PrintWords Go.Proofs.YtdnpkbhapdkikaaW.PrintMore

/-- The same up to a multiple of 2^64. -/
def Cg (a b : Int) : Prop := ∃ t : Int, a = b + 18446744073709551616 * t
theorem Cg.refl (a : Int) : Cg a a := ⟨0, by omega⟩
theorem Cg.of {a b : Int} (h : a = b) : Cg a b := h ▸ Cg.refl a
theorem Cg.symm {a b : Int} (h : Cg a b) : Cg b a := by obtain ⟨t, h⟩ := h; exact ⟨-t, by omega⟩
theorem Cg.trans {a b c : Int} (h : Cg a b) (g : Cg b c) : Cg a c := by obtain ⟨t, h⟩ := h; obtain ⟨s, g⟩ := g; exact ⟨t + s, by omega⟩
theorem Cg.add {a b c d : Int} (h : Cg a b) (g : Cg c d) : Cg (a + c) (b + d) := by obtain ⟨t, h⟩ := h; obtain ⟨s, g⟩ := g; exact ⟨t + s, by omega⟩
theorem Cg.sub {a b c d : Int} (h : Cg a b) (g : Cg c d) : Cg (a - c) (b - d) := by obtain ⟨t, h⟩ := h; obtain ⟨s, g⟩ := g; exact ⟨t - s, by omega⟩
theorem Cg.mul {a b c d : Int} (h : Cg a b) (g : Cg c d) : Cg (a * c) (b * d) := by
  obtain ⟨t, h⟩ := h
  obtain ⟨s, g⟩ := g
  refine ⟨b * s + t * d + 18446744073709551616 * (t * s), ?_⟩
  rw [h, g, Int.add_mul, Int.mul_add, Int.mul_add, Int.mul_add, Int.mul_add]
  have e1 : b * (18446744073709551616 * s) = 18446744073709551616 * (b * s) := by rw [← Int.mul_assoc, Int.mul_comm b, Int.mul_assoc]
  have e2 : 18446744073709551616 * t * d = 18446744073709551616 * (t * d) := Int.mul_assoc _ _ _
  have e3 : 18446744073709551616 * t * (18446744073709551616 * s) = 18446744073709551616 * (18446744073709551616 * (t * s)) := by
    rw [Int.mul_assoc, ← Int.mul_assoc t, Int.mul_comm t, Int.mul_assoc]
  rw [e1, e2, e3]
  omega
theorem Cg.wrap (a : Int) : Cg (wrap64 a) a := ⟨-((a + 9223372036854775808) / 18446744073709551616), by unfold wrap64; omega⟩
theorem Cg.eq {a b : Int} (h : Cg a b) : wrap64 a = wrap64 b := by obtain ⟨t, h⟩ := h; unfold wrap64; omega
theorem wrap_wrap (a : Int) : wrap64 (wrap64 a) = wrap64 a := (Cg.wrap a).eq

/-- f k + f (k + 1) + .., d numbers. -/
def sumF : Nat → Nat → (Nat → Int) → Int
  | _, 0, _ => 0
  | k, d + 1, f => f k + sumF (k + 1) d f
theorem sumF_cg {f g : Nat → Int} : ∀ (d k : Nat), (∀ i, k ≤ i → i < k + d → Cg (f i) (g i)) → Cg (sumF k d f) (sumF k d g)
  | 0, _, _ => Cg.refl _
  | d + 1, k, h => Cg.add (h k (Nat.le_refl _) (by omega)) (sumF_cg d (k + 1) (fun i h1 h2 => h i (by omega) (by omega)))
theorem sumF_congr {f g : Nat → Int} : ∀ (d k : Nat), (∀ i, k ≤ i → i < k + d → f i = g i) → sumF k d f = sumF k d g
  | 0, _, _ => rfl
  | d + 1, k, h => by
    unfold sumF
    rw [h k (Nat.le_refl _) (by omega), sumF_congr d (k + 1) (fun i h1 h2 => h i (by omega) (by omega))]
theorem sumF_zero : ∀ (d k : Nat), sumF k d (fun _ => 0) = 0
  | 0, _ => rfl
  | d + 1, k => by unfold sumF; rw [sumF_zero d (k + 1)]; rfl
theorem sumF_add (f g : Nat → Int) : ∀ (d k : Nat), sumF k d (fun i => f i + g i) = sumF k d f + sumF k d g
  | 0, _ => rfl
  | d + 1, k => by
    have e : sumF k (d + 1) (fun i => f i + g i) = (f k + g k) + sumF (k + 1) d (fun i => f i + g i) := rfl
    have e1 : sumF k (d + 1) f = f k + sumF (k + 1) d f := rfl
    have e2 : sumF k (d + 1) g = g k + sumF (k + 1) d g := rfl
    rw [e, e1, e2, sumF_add f g d (k + 1)]
    omega
theorem sumF_left (c : Int) (f : Nat → Int) : ∀ (d k : Nat), sumF k d (fun i => c * f i) = c * sumF k d f
  | 0, _ => by unfold sumF; omega
  | d + 1, k => by unfold sumF; rw [sumF_left c f d (k + 1), Int.mul_add]
theorem sumF_right (c : Int) (f : Nat → Int) (d k : Nat) : sumF k d (fun i => f i * c) = sumF k d f * c := by
  rw [Int.mul_comm, ← sumF_left]
  exact sumF_congr d k (fun i _ _ => Int.mul_comm _ _)
theorem sumF_swap (f : Nat → Nat → Int) (m j : Nat) : ∀ (d k : Nat), sumF k d (fun a => sumF j m (fun b => f a b)) = sumF j m (fun b => sumF k d (fun a => f a b))
  | 0, _ => (sumF_zero m j).symm
  | d + 1, k => by
    have e : (fun b => sumF k (d + 1) (fun a => f a b)) = fun b => f k b + sumF (k + 1) d (fun a => f a b) := rfl
    rw [e, sumF_add, ← sumF_swap f m j d (k + 1)]
    rfl
theorem sumF_miss (p : Nat) (v : Nat → Int) : ∀ (d k : Nat), p < k ∨ k + d ≤ p → sumF k d (fun i => if p = i then v i else 0) = 0
  | 0, _, _ => rfl
  | d + 1, k, h => by
    have e : sumF k (d + 1) (fun i => if p = i then v i else 0) = (if p = k then v k else 0) + sumF (k + 1) d (fun i => if p = i then v i else 0) := rfl
    rw [e, sumF_miss p v d (k + 1) (by omega), if_neg (by omega)]
    rfl
theorem sumF_hit (p : Nat) (v : Nat → Int) : ∀ (d k : Nat), k ≤ p → p < k + d → sumF k d (fun i => if p = i then v i else 0) = v p
  | 0, k, h1, h2 => by omega
  | d + 1, k, h1, h2 => by
    have e0 : sumF k (d + 1) (fun i => if p = i then v i else 0) = (if p = k then v k else 0) + sumF (k + 1) d (fun i => if p = i then v i else 0) := rfl
    rw [e0]
    by_cases e : p = k
    · rw [if_pos e, sumF_miss p v d (k + 1) (by omega), e]; omega
    · rw [if_neg e, sumF_hit p v d (k + 1) (by omega) (by omega)]; omega
/-- An involution of the places changes no sum. -/
theorem sumF_invol (f : Nat → Int) (p : Nat → Nat) (n : Nat) (hp : ∀ i, i < n → p i < n ∧ p (p i) = i) : sumF 0 n (fun i => f (p i)) = sumF 0 n f := by
  have e1 : sumF 0 n (fun i => f (p i)) = sumF 0 n (fun i => sumF 0 n (fun j => if p i = j then f j else 0)) :=
    sumF_congr n 0 (fun i _ h => (sumF_hit (p i) f n 0 (Nat.zero_le _) (by have := (hp i (by omega)).1; omega)).symm)
  rw [e1, sumF_swap]
  refine sumF_congr n 0 (fun j _ h => ?_)
  have e2 : sumF 0 n (fun i => if p i = j then f j else 0) = sumF 0 n (fun i => if p j = i then f j else 0) := by
    refine sumF_congr n 0 (fun i _ hi => ?_)
    have a := hp i (by omega)
    have b := hp j (by omega)
    by_cases c : p i = j
    · rw [if_pos c, if_pos (by rw [← c]; exact a.2)]
    · rw [if_neg c, if_neg (fun d => c (by rw [← d]; exact b.2))]
  rw [e2]
  exact sumF_hit (p j) (fun _ => f j) n 0 (Nat.zero_le _) (by have := (hp j (by omega)).1; omega)
def lsum (l : List Int) : Int := l.foldr (· + ·) 0
theorem lsum_drop (l : List Int) : ∀ (d i : Nat), i + d = l.length → lsum (l.drop i) = sumF i d (fun j => rd l j)
  | 0, i, h => by rw [List.drop_of_length_le (by omega)]; rfl
  | d + 1, i, h => by
    rw [drop_at l i (by omega)]
    unfold sumF
    rw [← lsum_drop l d (i + 1) (by omega)]
    rfl
theorem lsum_eq (l : List Int) : lsum l = sumF 0 l.length (fun j => rd l j) := by
  have := lsum_drop l l.length 0 (by omega)
  simpa using this
theorem wsum_cg : ∀ (l : List Int) (a : Int), Cg (wsum a l) (a + lsum l)
  | [], a => Cg.of (by simp [wsum, lsum])
  | x :: l, a => by
    have h := wsum_cg l (wrap64 (a + x))
    have e : wsum a (x :: l) = wsum (wrap64 (a + x)) l := rfl
    rw [e]
    refine h.trans ?_
    have := Cg.add (Cg.wrap (a + x)) (Cg.refl (lsum l))
    exact this.trans (Cg.of (by unfold lsum; simp only [List.foldr_cons]; omega))
theorem wsum_sum (l : List Int) : Cg (wsum 0 l) (sumF 0 l.length (fun j => rd l j)) := by
  rw [← lsum_eq]
  exact (wsum_cg l 0).trans (Cg.of (by omega))
theorem wsum_wrapped : ∀ (l : List Int) (a : Int), wrap64 a = a → wrap64 (wsum a l) = wsum a l
  | [], a, h => h
  | x :: l, a, _ => wsum_wrapped l (wrap64 (a + x)) (wrap_wrap _)
theorem rd_set (l : List Int) (q p : Nat) (v : Int) (hp : p < l.length) : rd (l.set q v) p = if q = p then v else rd l p := by
  rw [rd_nat _ _ (by rw [List.length_set]; exact hp), rd_nat _ _ hp, List.getElem_set]
/-! ### Products of a group ring -/
section
variable (n : Int) (x y : List Int)
def hitI (i k p : Nat) : Int := if mulPos n i k = p then rd x i * rd y k else 0
theorem mulStep_rd (i k p : Nat) (o : List Int) (hp : p < o.length) (hw : wrap64 (rd o p) = rd o p) :
    Cg (rd (mulStep n x y i k o) p) (rd o p + hitI n x y i k p) ∧ wrap64 (rd (mulStep n x y i k o) p) = rd (mulStep n x y i k o) p := by
  unfold mulStep hitI
  rw [rd_set _ _ _ _ hp]
  by_cases e : mulPos n i k = p
  · rw [if_pos e, if_pos e, e]
    exact ⟨(Cg.wrap _).trans (Cg.add (Cg.refl _) (Cg.wrap _)), wrap_wrap _⟩
  · rw [if_neg e, if_neg e]
    exact ⟨Cg.of (by omega), hw⟩
theorem mulIn_rd (i p : Nat) : ∀ (d k : Nat) (o : List Int), p < o.length → wrap64 (rd o p) = rd o p →
    Cg (rd (mulIn n x y i k d o) p) (rd o p + sumF k d (fun k => hitI n x y i k p)) ∧ wrap64 (rd (mulIn n x y i k d o) p) = rd (mulIn n x y i k d o) p
  | 0, k, o, hp, hw => ⟨Cg.of (by unfold sumF; show rd o p = _; omega), hw⟩
  | d + 1, k, o, hp, hw => by
    obtain ⟨h1, h2⟩ := mulStep_rd n x y i k p o hp hw
    obtain ⟨h3, h4⟩ := mulIn_rd i p d (k + 1) (mulStep n x y i k o) (by rw [mulStep_length]; exact hp) h2
    rw [mulIn_succ]
    refine ⟨h3.trans ((Cg.add h1 (Cg.refl _)).trans (Cg.of ?_)), h4⟩
    show _ = rd o p + (hitI n x y i k p + sumF (k + 1) d (fun k => hitI n x y i k p))
    omega
theorem mulOut_rd (p : Nat) : ∀ (d i : Nat) (o : List Int), p < o.length → wrap64 (rd o p) = rd o p →
    Cg (rd (mulOut n x y i d o) p) (rd o p + sumF i d (fun i => sumF 0 (unitsL n).length (fun k => hitI n x y i k p))) ∧ wrap64 (rd (mulOut n x y i d o) p) = rd (mulOut n x y i d o) p
  | 0, i, o, hp, hw => ⟨Cg.of (by unfold sumF; show rd o p = _; omega), hw⟩
  | d + 1, i, o, hp, hw => by
    obtain ⟨h1, h2⟩ := mulIn_rd n x y i p (unitsL n).length 0 o hp hw
    obtain ⟨h3, h4⟩ := mulOut_rd p d (i + 1) (mulIn n x y i 0 (unitsL n).length o) (by rw [mulIn_length]; exact hp) h2
    rw [mulOut_succ]
    refine ⟨h3.trans ((Cg.add h1 (Cg.refl _)).trans (Cg.of ?_)), h4⟩
    show _ = rd o p + (sumF 0 (unitsL n).length (fun k => hitI n x y i k p) + sumF (i + 1) d (fun i => sumF 0 (unitsL n).length (fun k => hitI n x y i k p)))
    omega
theorem mulL_rd (p : Nat) (hp : p < (unitsL n).length) :
    Cg (rd (mulL n x y) p) (sumF 0 (unitsL n).length (fun i => sumF 0 (unitsL n).length (fun k => hitI n x y i k p))) ∧ wrap64 (rd (mulL n x y) p) = rd (mulL n x y) p := by
  have h0 : rd (List.replicate (unitsL n).length (0 : Int)) p = 0 := by rw [rd_nat _ _ (by simpa using hp)]; simp
  obtain ⟨h1, h2⟩ := mulOut_rd n x y p (unitsL n).length 0 (List.replicate (unitsL n).length 0) (by simpa using hp) (by rw [h0]; exact wrap_id (by omega) (by omega))
  rw [h0] at h1
  exact ⟨h1.trans (Cg.of (by omega)), h2⟩
end
theorem mulPos_comm (n : Int) (i k : Nat) : mulPos n i k = mulPos n k i := by unfold mulPos; rw [Int.mul_comm]
theorem mulPos_lt {n : Int} (h2 : 2 ≤ n) (h40 : n ≤ 40) {i k : Nat} (hi : i < (unitsL n).length) (hk : k < (unitsL n).length) : mulPos n i k < (unitsL n).length :=
  List.idxOf_lt_length_of_mem (mul_unit h2 h40 (unit_at hi) (unit_at hk))
theorem list_ext_rd {a b : List Int} (hl : a.length = b.length) (h : ∀ p : Nat, p < a.length → rd a p = rd b p) : a = b := by
  refine List.ext_getElem hl (fun p h1 h2 => ?_)
  rw [← rd_nat a p h1, ← rd_nat b p h2]
  exact h p h1
theorem mulL_comm (n : Int) (x y : List Int) : mulL n x y = mulL n y x := by
  refine list_ext_rd (by rw [mulL_length, mulL_length]) (fun p hp => ?_)
  rw [mulL_length] at hp
  obtain ⟨h1, h2⟩ := mulL_rd n x y p hp
  obtain ⟨h3, h4⟩ := mulL_rd n y x p hp
  have e : sumF 0 (unitsL n).length (fun i => sumF 0 (unitsL n).length (fun k => hitI n x y i k p)) = sumF 0 (unitsL n).length (fun i => sumF 0 (unitsL n).length (fun k => hitI n y x i k p)) := by
    rw [sumF_swap]
    refine sumF_congr _ 0 (fun i _ _ => sumF_congr _ 0 (fun k _ _ => ?_))
    unfold hitI
    rw [mulPos_comm, Int.mul_comm]
  rw [← h2, ← h4]
  exact (h1.trans ((Cg.of e).trans h3.symm)).eq
/-- The total of a product is the product of the totals. -/
theorem mulL_sum {n : Int} {x y : List Int} (h2 : 2 ≤ n) (h40 : n ≤ 40) (hx : x.length = (unitsL n).length) (hy : y.length = (unitsL n).length) : wsum 0 (mulL n x y) = wrap64 (wsum 0 x * wsum 0 y) := by
  rw [← wsum_wrapped (mulL n x y) 0 (wrap_id (by omega) (by omega))]
  refine Cg.eq ?_
  refine (wsum_sum _).trans ?_
  rw [mulL_length]
  have s1 : Cg (sumF 0 (unitsL n).length fun j => rd (mulL n x y) j) (sumF 0 (unitsL n).length fun p => sumF 0 (unitsL n).length (fun i => sumF 0 (unitsL n).length (fun k => hitI n x y i k p))) :=
    sumF_cg _ 0 (fun p _ hp => (mulL_rd n x y p (by omega)).1)
  have s2 : (sumF 0 (unitsL n).length fun p => sumF 0 (unitsL n).length (fun i => sumF 0 (unitsL n).length (fun k => hitI n x y i k p))) = sumF 0 (unitsL n).length (fun i => sumF 0 (unitsL n).length (fun k => rd x i * rd y k)) := by
    rw [sumF_swap]
    refine sumF_congr _ 0 (fun i _ hi => ?_)
    rw [sumF_swap]
    refine sumF_congr _ 0 (fun k _ hk => ?_)
    exact sumF_hit (mulPos n i k) (fun _ => rd x i * rd y k) _ 0 (Nat.zero_le _) (by have := mulPos_lt h2 h40 (i := i) (k := k) (by omega) (by omega); omega)
  have s3 : sumF 0 (unitsL n).length (fun i => sumF 0 (unitsL n).length (fun k => rd x i * rd y k)) = sumF 0 (unitsL n).length (fun i => rd x i) * sumF 0 (unitsL n).length (fun k => rd y k) := by
    rw [← sumF_right]
    exact sumF_congr _ 0 (fun i _ _ => sumF_left _ _ _ _)
  refine (s1.trans (Cg.of (s2.trans s3))).trans ?_
  have ex := wsum_sum x
  have ey := wsum_sum y
  rw [hx] at ex
  rw [hy] at ey
  exact (Cg.mul ex ey).symm
end Go.Proofs.Ytdnpkbhapdkikaa.Plain
