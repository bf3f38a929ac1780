/- Plain facts: lists, sums, roots of unity, floats. No program in sight. -/
import Derived.Test.YtlpooghphoohcaaZR5
import Derived.KernelRfl
import Ieee.Arith
/- Words for facts on printed functions. -/
namespace Go.Proofs.Ytlpooghphoohcaa.F
open Go.RowKit Go.Proofs.Ytlpooghphoohcaa.R
set_option linter.unusedVariables false
def rd (xs : List Int) (i : Int) : Int := xs.getD i.toNat 0
/-- A whole number within 64 bits. -/
def wrap64 (n : Int) : Int := w64 n
theorem wrap64_def (n : Int) : wrap64 n = (n + 9223372036854775808) % 18446744073709551616 - 9223372036854775808 := wr64 n
theorem wu64_def (n : Int) : wu64 n = n % 18446744073709551616 := wru64 n
theorem w64_wrap (x : Int) : w64 x = wrap64 x := rfl
theorem w64_id {x : Int} (h1 : -9223372036854775808 ≤ x) (h2 : x ≤ 9223372036854775807) : w64 x = x := by
  rw [w64_wrap, wrap64_def]; omega
section
variable {A : Type} (z : A)
theorem gd_ok {c : Prop} [Decidable c] {k : A} (h : c) : gd z c k = k := if_pos h
theorem inI_ok {i : Int} {n : Nat} {k : Nat → A} (h0 : 0 ≤ i) (h1 : i < n) : inI z i n k = k i.toNat := by
  unfold inI
  rw [if_pos h0, if_pos h1]
theorem inI_at {i n : Nat} {k : Nat → A} (h : i < n) : inI z (i : Int) n k = k i := by
  rw [inI_ok z (by omega) (by omega), Int.toNat_natCast]
theorem inI_0 {n : Nat} {k : Nat → A} (h : 0 < n) : inI z 0 n k = k 0 := inI_at z (i := 0) h
theorem toI_ok {i : Int} {n : Nat} {k : Nat → A} (h0 : 0 ≤ i) (h1 : i ≤ n) : toI z i n k = k i.toNat := by
  unfold toI
  rw [if_pos h0, if_pos h1]
theorem mkI_ok {b : Nat} {n : Int} {k : Nat → A} (h0 : 0 ≤ n) (h1 : n.toNat * b ≤ 281474976710656) : mkI z b n k = k n.toNat := by
  unfold mkI
  rw [if_pos h0, if_pos h1]
theorem mkI_at {b n : Nat} {k : Nat → A} (h1 : n * b ≤ 281474976710656) : mkI z b (n : Int) k = k n := by
  rw [mkI_ok z (by omega) (by rw [Int.toNat_natCast]; exact h1), Int.toNat_natCast]
theorem apI_ok {b n : Nat} {k : A} (h : n * b ≤ 140737488355328) : apI z n b k = k := if_pos h
end
theorem up {K k : Nat} (h : K + 1 ≤ k) : ∃ j, k = j + 1 ∧ K ≤ j := ⟨k - 1, by omega, by omega⟩
end Go.Proofs.Ytlpooghphoohcaa.F
/- Plain facts on lists of whole numbers and on loops counted by rounds: no program in sight. -/
set_option linter.unusedVariables false
set_option linter.unusedSimpArgs false
namespace Go.Proofs.Ytlpooghphoohcaa.F
open Go.RowKit Go.Proofs.Ytlpooghphoohcaa.R

theorem wrap_id {x : Int} (h0 : -9223372036854775808 ≤ x) (h1 : x ≤ 9223372036854775807) : wrap64 x = x := by
  simp only [wrap64_def]; omega

theorem wrap_idx (i : Nat) (h : i < 4611686018427387904) : wrap64 ((i : Int) + 1) = ((i + 1 : Nat) : Int) := by
  simp only [wrap64_def]; omega

theorem rd_nat (l : List Int) (i : Nat) (h : i < l.length) : rd l (i : Int) = l[i] := by
  unfold rd; simp [h]

theorem drop_at (l : List Int) (i : Nat) (h : i < l.length) : l.drop i = rd l (i : Int) :: l.drop (i + 1) := by
  rw [rd_nat l i h]; exact List.drop_eq_getElem_cons h





/-- m, m + 1, .. : d numbers. -/
def iot (m : Int) : Nat → List Int
  | 0 => []
  | d + 1 => m :: iot (m + 1) d
theorem iot_length (m : Int) (d : Nat) : (iot m d).length = d := by
  induction d generalizing m with
  | zero => rfl
  | succ d ih => simp [iot, ih]

/-- The numbers a, a + 1, .., n. -/
def upto (a n : Int) : List Int := iot a (n + 1 - a).toNat
theorem upto_cons {a n : Int} (h : a ≤ n) : upto a n = a :: upto (a + 1) n := by
  unfold upto
  have : (n + 1 - a).toNat = (n + 1 - (a + 1)).toNat + 1 := by omega
  rw [this]; rfl
theorem upto_nil {a n : Int} (h : n < a) : upto a n = [] := by
  unfold upto
  have : (n + 1 - a).toNat = 0 := by omega
  rw [this]; rfl
theorem mem_iot {x m : Int} {d : Nat} : x ∈ iot m d ↔ m ≤ x ∧ x < m + d := by
  induction d generalizing m with
  | zero => simp only [iot, List.not_mem_nil, false_iff]; omega
  | succ d ih => simp only [iot, List.mem_cons, ih]; omega
theorem mem_upto {x a n : Int} : x ∈ upto a n ↔ a ≤ x ∧ x ≤ n := by
  unfold upto; rw [mem_iot]; omega
theorem upto_length (a n : Int) : (upto a n).length = (n + 1 - a).toNat := iot_length _ _

/-- The numbers 1 to n without a common divisor with n. -/
def unitsL (n : Int) : List Int := (upto 1 n).filter (fun a => decide ((Int.gcd a n : Int) = 1))
def unitsFrom (a n : Int) : List Int := (upto a n).filter (fun a => decide ((Int.gcd a n : Int) = 1))
theorem unitsFrom_one (n : Int) : unitsFrom 1 n = unitsL n := rfl
theorem unitsFrom_length (a n : Int) : (unitsFrom a n).length ≤ (n + 1 - a).toNat := by
  unfold unitsFrom
  exact Nat.le_trans (List.length_filter_le _ _) (Nat.le_of_eq (upto_length a n))

theorem unitsL_length (n : Int) : (unitsL n).length ≤ n.toNat := by
  have := unitsFrom_length 1 n
  rw [unitsFrom_one] at this
  omega

/-- A sum as the code adds it up. -/
def wsum (a : Int) (l : List Int) : Int := l.foldl (fun s x => wrap64 (s + x)) a
/-- Are all parts small enough? -/
def smallL (l : List Int) : Bool := l.all fun x => decide (-1000000000 ≤ x ∧ x ≤ 1000000000)
/-- Is this an element of a group ring? -/
def ringB (m : Int) (l : List Int) : Bool := decide (2 ≤ m ∧ m ≤ 40) && (decide (l.length = (unitsL m).length) && smallL l)
theorem ringB_len {m : Int} {l : List Int} (h : ringB m l = true) : 2 ≤ m ∧ m ≤ 40 ∧ l.length = (unitsL m).length ∧ smallL l = true := by
  simpa [ringB, and_assoc] using h

/-- Is this a number of a field? -/
def cycloB (n : Int) (l : List Int) : Bool := decide (1 ≤ n ∧ n ≤ 16) && (decide (l.length = (unitsL n).length) && smallL l)
theorem cycloB_len {n : Int} {l : List Int} (h : cycloB n l = true) : 1 ≤ n ∧ n ≤ 16 ∧ l.length = (unitsL n).length ∧ smallL l = true := by
  simpa [cycloB, and_assoc] using h
def primes61 : List Int := [3, 5, 7, 11, 13, 17, 19, 23, 29, 31, 37, 41, 43, 47, 53, 59, 61]
def primeB (p : Int) : Bool := primes61.contains p
theorem primeB_range {p : Int} (h : primeB p = true) : 3 ≤ p ∧ p ≤ 61 := by
  simp [primeB, primes61] at h; omega
/-- Can characters have this prime and this order? -/
def areOfB (p n : Int) : Bool := primeB p && (decide (1 ≤ n ∧ n ≤ 16) && decide (Int.tmod (p - 1) n = 0))
def charB (p n k : Int) : Bool := areOfB p n && decide (0 ≤ k ∧ k ≤ n - 1)

theorem gcd_tmod (a b : Int) (ha : 0 ≤ a) (hb : 0 < b) : Int.gcd b (Int.tmod a b) = Int.gcd a b := by
  rw [Int.tmod_eq_emod_of_nonneg ha]
  unfold Int.gcd
  rw [Int.natAbs_emod_of_nonneg ha, Nat.gcd_comm b.natAbs, ← Nat.gcd_rec, Nat.gcd_comm]

end Go.Proofs.Ytlpooghphoohcaa.F
/- Inverses of residues of the moduli 2 to 40, and lists that are filled along them: plain facts. -/
set_option linter.unusedVariables false
set_option linter.unusedSimpArgs false
namespace Go.Proofs.Ytlpooghphoohcaa.F
open Go.RowKit Go.Proofs.Ytlpooghphoohcaa.R

def invFrom (n a b : Int) : Option Int := (upto b (n - 1)).find? fun b => decide (a * b % n = 1)
/-- The residue that a is multiplied by to 1. -/
def invOf (n a : Int) : Int := (invFrom n a 1).getD 1

theorem inv_all : (iot 2 39).all (fun n => (unitsL n).all fun a => (invFrom n a 1).isSome && (decide (a * invOf n a % n = 1) && ((unitsL n).contains (invOf n a) && decide (invOf n (invOf n a) = a)))) = true := by decide +kernel

theorem inv_facts {n a : Int} (h2 : 2 ≤ n) (h40 : n ≤ 40) (ha : a ∈ unitsL n) : (invFrom n a 1).isSome = true ∧ a * invOf n a % n = 1 ∧ invOf n a ∈ unitsL n ∧ invOf n (invOf n a) = a := by
  have h := List.all_eq_true.1 inv_all n (mem_iot.2 (by omega))
  have h := List.all_eq_true.1 h a ha
  simpa using h

theorem unit_range {n a : Int} (ha : a ∈ unitsL n) : 1 ≤ a ∧ a ≤ n ∧ (Int.gcd a n : Int) = 1 := by
  unfold unitsL at ha
  rw [List.mem_filter, mem_upto] at ha
  exact ⟨ha.1.1, ha.1.2, by simpa using ha.2⟩

theorem invFrom_hit {n a b : Int} (hb : b ≤ n - 1) (h : a * b % n = 1) : invFrom n a b = some b := by
  unfold invFrom; rw [upto_cons hb, List.find?_cons]; simp [h]
theorem invFrom_miss {n a b : Int} (hb : b ≤ n - 1) (h : ¬ a * b % n = 1) : invFrom n a b = invFrom n a (b + 1) := by
  unfold invFrom; rw [upto_cons hb, List.find?_cons]; simp [h]
theorem invFrom_end {n a b : Int} (hb : n - 1 < b) : invFrom n a b = none := by
  unfold invFrom; rw [upto_nil hb]; rfl

theorem nodup_iot (m : Int) (d : Nat) : (iot m d).Nodup := by
  induction d generalizing m with
  | zero => exact List.nodup_nil
  | succ d ih => exact List.nodup_cons.2 ⟨fun h => by have := mem_iot.1 h; omega, ih _⟩
theorem nodup_units (n : Int) : (unitsL n).Nodup := List.Nodup.sublist List.filter_sublist (nodup_iot _ _)

theorem idxOf_drop {l : List Int} {a : Int} {i : Nat} (hi : i < l.length) : (l.drop i).idxOf a = if l[i] = a then 0 else (l.drop (i + 1)).idxOf a + 1 := by
  rw [List.drop_eq_getElem_cons hi, List.idxOf_cons]
  by_cases h : l[i] = a
  · simp [h]
  · rw [if_neg h, beq_false_of_ne h]; rfl

/-- Where the places p(0), p(1), .. of a list are filled with g(0), g(1), .., and p leads back: each place j holds g(p(j)). -/
theorem fill_along (L : Nat) (p : Nat → Nat) (g : Nat → Int) (hp : ∀ i, i < L → p i < L ∧ p (p i) = i) :
    ∀ (m : Nat) (o : List Int), m ≤ L → o.length = L → (∀ j, j < L → p j < m → o[j]? = some (g (p j))) →
      ∀ o', o' = ((List.range' m (L - m)).foldl (fun o i => o.set (p i) (g i)) o) → o'.length = L ∧ ∀ j, j < L → o'[j]? = some (g (p j)) := by
  intro m o hm
  induction hd : L - m generalizing m o with
  | zero =>
    intro hl h o' ho
    simp at ho
    subst ho
    exact ⟨hl, fun j hj => h j hj (by have := (hp j hj).1; omega)⟩
  | succ d ih =>
    intro hl h o' ho
    rw [List.range'_succ, List.foldl_cons] at ho
    refine ih (m + 1) (o.set (p m) (g m)) (by omega) (by omega) (by simpa using hl) ?_ o' ho
    intro j hj hlt
    by_cases e : p j = m
    · have e2 : p m = j := by rw [← e]; exact (hp j hj).2
      rw [e2, e, List.getElem?_set_self (by omega)]
    · have e2 : p m ≠ j := fun e2 => e (by rw [← e2]; exact (hp m (by omega)).2)
      rw [List.getElem?_set_ne e2]
      exact h j hj (by omega)

/-- The place of the inverse of the unit at a place. -/
def invPos (n : Int) (i : Nat) : Nat := (unitsL n).idxOf (invOf n (rd (unitsL n) i))
theorem invPos_facts {n : Int} (h2 : 2 ≤ n) (h40 : n ≤ 40) (i : Nat) (hi : i < (unitsL n).length) :
    invPos n i < (unitsL n).length ∧ invPos n (invPos n i) = i ∧ rd (unitsL n) (invPos n i) = invOf n (rd (unitsL n) i) := by
  have hm : rd (unitsL n) i ∈ unitsL n := by rw [rd_nat _ _ hi]; exact List.getElem_mem hi
  obtain ⟨_, _, h3, h4⟩ := inv_facts h2 h40 hm
  have hlt : invPos n i < (unitsL n).length := List.idxOf_lt_length_of_mem h3
  have hr : rd (unitsL n) (invPos n i) = invOf n (rd (unitsL n) i) := by
    rw [rd_nat _ _ hlt]; exact List.getElem_idxOf hlt
  refine ⟨hlt, ?_, hr⟩
  have e : invPos n (invPos n i) = (unitsL n).idxOf (invOf n (rd (unitsL n) (invPos n i))) := rfl
  rw [e, hr, h4, rd_nat _ _ hi]
  exact List.Nodup.idxOf_getElem (nodup_units n) i hi

end Go.Proofs.Ytlpooghphoohcaa.F
/- Products of elements of a group ring, as the loops add them up: plain facts. -/
set_option linter.unusedVariables false
set_option linter.unusedSimpArgs false
namespace Go.Proofs.Ytlpooghphoohcaa.F
open Go.RowKit Go.Proofs.Ytlpooghphoohcaa.R

theorem mul_all : (iot 2 39).all (fun n => (unitsL n).all fun a => (unitsL n).all fun b => (unitsL n).contains (a * b % n)) = true := by decide +kernel
theorem mul_unit {n a b : Int} (h2 : 2 ≤ n) (h40 : n ≤ 40) (ha : a ∈ unitsL n) (hb : b ∈ unitsL n) : a * b % n ∈ unitsL n := by
  have h := List.all_eq_true.1 mul_all n (mem_iot.2 (by omega))
  have h := List.all_eq_true.1 h a ha
  have h := List.all_eq_true.1 h b hb
  simpa using h
/-- The place of the product of the units at two places. -/
def mulPos (n : Int) (i k : Nat) : Nat := (unitsL n).idxOf (rd (unitsL n) i * rd (unitsL n) k % n)
def mulStep (n : Int) (x y : List Int) (i k : Nat) (o : List Int) : List Int := o.set (mulPos n i k) (wrap64 (rd o (mulPos n i k : Nat) + wrap64 (rd x i * rd y k)))
def mulIn (n : Int) (x y : List Int) (i k d : Nat) (o : List Int) : List Int := (List.range' k d).foldl (fun o k => mulStep n x y i k o) o
def mulOut (n : Int) (x y : List Int) (i d : Nat) (o : List Int) : List Int := (List.range' i d).foldl (fun o i => mulIn n x y i 0 (unitsL n).length o) o
theorem mulStep_length (n : Int) (x y : List Int) (i k : Nat) (o : List Int) : (mulStep n x y i k o).length = o.length := by unfold mulStep; simp
theorem mulIn_succ (n : Int) (x y : List Int) (i k d : Nat) (o : List Int) : mulIn n x y i k (d + 1) o = mulIn n x y i (k + 1) d (mulStep n x y i k o) := by
  unfold mulIn; rw [List.range'_succ, List.foldl_cons]
theorem mulIn_length (n : Int) (x y : List Int) (i : Nat) : ∀ (d k : Nat) (o : List Int), (mulIn n x y i k d o).length = o.length := by
  intro d
  induction d with
  | zero => intro k o; rfl
  | succ d ih => intro k o; rw [mulIn_succ, ih, mulStep_length]
theorem mulOut_succ (n : Int) (x y : List Int) (i d : Nat) (o : List Int) : mulOut n x y i (d + 1) o = mulOut n x y (i + 1) d (mulIn n x y i 0 (unitsL n).length o) := by
  unfold mulOut; rw [List.range'_succ, List.foldl_cons]
theorem mulOut_length (n : Int) (x y : List Int) : ∀ (d i : Nat) (o : List Int), (mulOut n x y i d o).length = o.length := by
  intro d
  induction d with
  | zero => intro i o; rfl
  | succ d ih => intro i o; rw [mulOut_succ, ih, mulIn_length]
def mulL (n : Int) (x y : List Int) : List Int := mulOut n x y 0 (unitsL n).length (List.replicate (unitsL n).length 0)
theorem mulL_length (n : Int) (x y : List Int) : (mulL n x y).length = (unitsL n).length := by unfold mulL; rw [mulOut_length]; simp
theorem unit_at {n : Int} {i : Nat} (hi : i < (unitsL n).length) : rd (unitsL n) i ∈ unitsL n := by rw [rd_nat _ _ hi]; exact List.getElem_mem hi
theorem unit_mul {n a b : Int} (h40 : n ≤ 40) (ha : a ∈ unitsL n) (hb : b ∈ unitsL n) : 0 ≤ a * b ∧ a * b ≤ 1600 := by
  have h1 := unit_range ha; have h2 := unit_range hb
  exact ⟨Int.mul_nonneg (by omega) (by omega), Int.mul_le_mul (c := 40) (d := 40) (by omega) (by omega) (by omega) (by omega)⟩
def small5 (l : List Int) : Bool := l.all fun x => decide (-100000 ≤ x ∧ x ≤ 100000)
end Go.Proofs.Ytlpooghphoohcaa.F
/- Sums of whole numbers up to multiples of 2^64, and the sums over what a group ring's loops do: plain facts. -/
set_option linter.unusedVariables false
set_option linter.unusedSimpArgs false
namespace Go.Proofs.Ytlpooghphoohcaa.F
open Go.RowKit Go.Proofs.Ytlpooghphoohcaa.R

/-- The same up to a multiple of 2^64. -/
def Cg (a b : Int) : Prop := ∃ t : Int, a = b + 18446744073709551616 * t
theorem Cg.refl (a : Int) : Cg a a := ⟨0, by omega⟩
theorem Cg.of {a b : Int} (h : a = b) : Cg a b := h ▸ Cg.refl a
theorem Cg.symm {a b : Int} (h : Cg a b) : Cg b a := by obtain ⟨t, h⟩ := h; exact ⟨-t, by omega⟩
theorem Cg.trans {a b c : Int} (h : Cg a b) (g : Cg b c) : Cg a c := by obtain ⟨t, h⟩ := h; obtain ⟨s, g⟩ := g; exact ⟨t + s, by omega⟩
theorem Cg.add {a b c d : Int} (h : Cg a b) (g : Cg c d) : Cg (a + c) (b + d) := by obtain ⟨t, h⟩ := h; obtain ⟨s, g⟩ := g; exact ⟨t + s, by omega⟩
theorem Cg.sub {a b c d : Int} (h : Cg a b) (g : Cg c d) : Cg (a - c) (b - d) := by obtain ⟨t, h⟩ := h; obtain ⟨s, g⟩ := g; exact ⟨t - s, by omega⟩
theorem Cg.mul {a b c d : Int} (h : Cg a b) (g : Cg c d) : Cg (a * c) (b * d) := by
  obtain ⟨t, h⟩ := h
  obtain ⟨s, g⟩ := g
  refine ⟨b * s + t * d + 18446744073709551616 * (t * s), ?_⟩
  rw [h, g, Int.add_mul, Int.mul_add, Int.mul_add, Int.mul_add, Int.mul_add]
  have e1 : b * (18446744073709551616 * s) = 18446744073709551616 * (b * s) := by rw [← Int.mul_assoc, Int.mul_comm b, Int.mul_assoc]
  have e2 : 18446744073709551616 * t * d = 18446744073709551616 * (t * d) := Int.mul_assoc _ _ _
  have e3 : 18446744073709551616 * t * (18446744073709551616 * s) = 18446744073709551616 * (18446744073709551616 * (t * s)) := by
    rw [Int.mul_assoc, ← Int.mul_assoc t, Int.mul_comm t, Int.mul_assoc]
  rw [e1, e2, e3]
  omega
theorem Cg.wrap (a : Int) : Cg (wrap64 a) a := ⟨-((a + 9223372036854775808) / 18446744073709551616), by simp only [wrap64_def]; omega⟩
theorem Cg.eq {a b : Int} (h : Cg a b) : wrap64 a = wrap64 b := by obtain ⟨t, h⟩ := h; simp only [wrap64_def]; omega
theorem wrap_wrap (a : Int) : wrap64 (wrap64 a) = wrap64 a := (Cg.wrap a).eq

/-- f k + f (k + 1) + .., d numbers. -/
def sumF : Nat → Nat → (Nat → Int) → Int
  | _, 0, _ => 0
  | k, d + 1, f => f k + sumF (k + 1) d f
theorem sumF_cg {f g : Nat → Int} : ∀ (d k : Nat), (∀ i, k ≤ i → i < k + d → Cg (f i) (g i)) → Cg (sumF k d f) (sumF k d g)
  | 0, _, _ => Cg.refl _
  | d + 1, k, h => Cg.add (h k (Nat.le_refl _) (by omega)) (sumF_cg d (k + 1) (fun i h1 h2 => h i (by omega) (by omega)))
theorem sumF_congr {f g : Nat → Int} : ∀ (d k : Nat), (∀ i, k ≤ i → i < k + d → f i = g i) → sumF k d f = sumF k d g
  | 0, _, _ => rfl
  | d + 1, k, h => by
    unfold sumF
    rw [h k (Nat.le_refl _) (by omega), sumF_congr d (k + 1) (fun i h1 h2 => h i (by omega) (by omega))]
theorem sumF_zero : ∀ (d k : Nat), sumF k d (fun _ => 0) = 0
  | 0, _ => rfl
  | d + 1, k => by unfold sumF; rw [sumF_zero d (k + 1)]; rfl
theorem sumF_add (f g : Nat → Int) : ∀ (d k : Nat), sumF k d (fun i => f i + g i) = sumF k d f + sumF k d g
  | 0, _ => rfl
  | d + 1, k => by
    have e : sumF k (d + 1) (fun i => f i + g i) = (f k + g k) + sumF (k + 1) d (fun i => f i + g i) := rfl
    have e1 : sumF k (d + 1) f = f k + sumF (k + 1) d f := rfl
    have e2 : sumF k (d + 1) g = g k + sumF (k + 1) d g := rfl
    rw [e, e1, e2, sumF_add f g d (k + 1)]
    omega
theorem sumF_left (c : Int) (f : Nat → Int) : ∀ (d k : Nat), sumF k d (fun i => c * f i) = c * sumF k d f
  | 0, _ => by unfold sumF; omega
  | d + 1, k => by unfold sumF; rw [sumF_left c f d (k + 1), Int.mul_add]
theorem sumF_right (c : Int) (f : Nat → Int) (d k : Nat) : sumF k d (fun i => f i * c) = sumF k d f * c := by
  rw [Int.mul_comm, ← sumF_left]
  exact sumF_congr d k (fun i _ _ => Int.mul_comm _ _)
theorem sumF_swap (f : Nat → Nat → Int) (m j : Nat) : ∀ (d k : Nat), sumF k d (fun a => sumF j m (fun b => f a b)) = sumF j m (fun b => sumF k d (fun a => f a b))
  | 0, _ => (sumF_zero m j).symm
  | d + 1, k => by
    have e : (fun b => sumF k (d + 1) (fun a => f a b)) = fun b => f k b + sumF (k + 1) d (fun a => f a b) := rfl
    rw [e, sumF_add, ← sumF_swap f m j d (k + 1)]
    rfl
theorem sumF_miss (p : Nat) (v : Nat → Int) : ∀ (d k : Nat), p < k ∨ k + d ≤ p → sumF k d (fun i => if p = i then v i else 0) = 0
  | 0, _, _ => rfl
  | d + 1, k, h => by
    have e : sumF k (d + 1) (fun i => if p = i then v i else 0) = (if p = k then v k else 0) + sumF (k + 1) d (fun i => if p = i then v i else 0) := rfl
    rw [e, sumF_miss p v d (k + 1) (by omega), if_neg (by omega)]
    rfl
theorem sumF_hit (p : Nat) (v : Nat → Int) : ∀ (d k : Nat), k ≤ p → p < k + d → sumF k d (fun i => if p = i then v i else 0) = v p
  | 0, k, h1, h2 => by omega
  | d + 1, k, h1, h2 => by
    have e0 : sumF k (d + 1) (fun i => if p = i then v i else 0) = (if p = k then v k else 0) + sumF (k + 1) d (fun i => if p = i then v i else 0) := rfl
    rw [e0]
    by_cases e : p = k
    · rw [if_pos e, sumF_miss p v d (k + 1) (by omega), e]; omega
    · rw [if_neg e, sumF_hit p v d (k + 1) (by omega) (by omega)]; omega
/-- An involution of the places changes no sum. -/
theorem sumF_invol (f : Nat → Int) (p : Nat → Nat) (n : Nat) (hp : ∀ i, i < n → p i < n ∧ p (p i) = i) : sumF 0 n (fun i => f (p i)) = sumF 0 n f := by
  have e1 : sumF 0 n (fun i => f (p i)) = sumF 0 n (fun i => sumF 0 n (fun j => if p i = j then f j else 0)) :=
    sumF_congr n 0 (fun i _ h => (sumF_hit (p i) f n 0 (Nat.zero_le _) (by have := (hp i (by omega)).1; omega)).symm)
  rw [e1, sumF_swap]
  refine sumF_congr n 0 (fun j _ h => ?_)
  have e2 : sumF 0 n (fun i => if p i = j then f j else 0) = sumF 0 n (fun i => if p j = i then f j else 0) := by
    refine sumF_congr n 0 (fun i _ hi => ?_)
    have a := hp i (by omega)
    have b := hp j (by omega)
    by_cases c : p i = j
    · rw [if_pos c, if_pos (by rw [← c]; exact a.2)]
    · rw [if_neg c, if_neg (fun d => c (by rw [← d]; exact b.2))]
  rw [e2]
  exact sumF_hit (p j) (fun _ => f j) n 0 (Nat.zero_le _) (by have := (hp j (by omega)).1; omega)
def lsum (l : List Int) : Int := l.foldr (· + ·) 0
theorem lsum_drop (l : List Int) : ∀ (d i : Nat), i + d = l.length → lsum (l.drop i) = sumF i d (fun j => rd l j)
  | 0, i, h => by rw [List.drop_of_length_le (by omega)]; rfl
  | d + 1, i, h => by
    rw [drop_at l i (by omega)]
    unfold sumF
    rw [← lsum_drop l d (i + 1) (by omega)]
    rfl
theorem lsum_eq (l : List Int) : lsum l = sumF 0 l.length (fun j => rd l j) := by
  have := lsum_drop l l.length 0 (by omega)
  simpa using this
theorem wsum_cg : ∀ (l : List Int) (a : Int), Cg (wsum a l) (a + lsum l)
  | [], a => Cg.of (by simp [wsum, lsum])
  | x :: l, a => by
    have h := wsum_cg l (wrap64 (a + x))
    have e : wsum a (x :: l) = wsum (wrap64 (a + x)) l := rfl
    rw [e]
    refine h.trans ?_
    have := Cg.add (Cg.wrap (a + x)) (Cg.refl (lsum l))
    exact this.trans (Cg.of (by unfold lsum; simp only [List.foldr_cons]; omega))
theorem wsum_sum (l : List Int) : Cg (wsum 0 l) (sumF 0 l.length (fun j => rd l j)) := by
  rw [← lsum_eq]
  exact (wsum_cg l 0).trans (Cg.of (by omega))
theorem wsum_wrapped : ∀ (l : List Int) (a : Int), wrap64 a = a → wrap64 (wsum a l) = wsum a l
  | [], a, h => h
  | x :: l, a, _ => wsum_wrapped l (wrap64 (a + x)) (wrap_wrap _)
theorem rd_set (l : List Int) (q p : Nat) (v : Int) (hp : p < l.length) : rd (l.set q v) p = if q = p then v else rd l p := by
  rw [rd_nat _ _ (by rw [List.length_set]; exact hp), rd_nat _ _ hp, List.getElem_set]
/-! ### Products of a group ring -/
section
variable (n : Int) (x y : List Int)
def hitI (i k p : Nat) : Int := if mulPos n i k = p then rd x i * rd y k else 0
theorem mulStep_rd (i k p : Nat) (o : List Int) (hp : p < o.length) (hw : wrap64 (rd o p) = rd o p) :
    Cg (rd (mulStep n x y i k o) p) (rd o p + hitI n x y i k p) ∧ wrap64 (rd (mulStep n x y i k o) p) = rd (mulStep n x y i k o) p := by
  unfold mulStep hitI
  rw [rd_set _ _ _ _ hp]
  by_cases e : mulPos n i k = p
  · rw [if_pos e, if_pos e, e]
    exact ⟨(Cg.wrap _).trans (Cg.add (Cg.refl _) (Cg.wrap _)), wrap_wrap _⟩
  · rw [if_neg e, if_neg e]
    exact ⟨Cg.of (by omega), hw⟩
theorem mulIn_rd (i p : Nat) : ∀ (d k : Nat) (o : List Int), p < o.length → wrap64 (rd o p) = rd o p →
    Cg (rd (mulIn n x y i k d o) p) (rd o p + sumF k d (fun k => hitI n x y i k p)) ∧ wrap64 (rd (mulIn n x y i k d o) p) = rd (mulIn n x y i k d o) p
  | 0, k, o, hp, hw => ⟨Cg.of (by unfold sumF; show rd o p = _; omega), hw⟩
  | d + 1, k, o, hp, hw => by
    obtain ⟨h1, h2⟩ := mulStep_rd n x y i k p o hp hw
    obtain ⟨h3, h4⟩ := mulIn_rd i p d (k + 1) (mulStep n x y i k o) (by rw [mulStep_length]; exact hp) h2
    rw [mulIn_succ]
    refine ⟨h3.trans ((Cg.add h1 (Cg.refl _)).trans (Cg.of ?_)), h4⟩
    show _ = rd o p + (hitI n x y i k p + sumF (k + 1) d (fun k => hitI n x y i k p))
    omega
theorem mulOut_rd (p : Nat) : ∀ (d i : Nat) (o : List Int), p < o.length → wrap64 (rd o p) = rd o p →
    Cg (rd (mulOut n x y i d o) p) (rd o p + sumF i d (fun i => sumF 0 (unitsL n).length (fun k => hitI n x y i k p))) ∧ wrap64 (rd (mulOut n x y i d o) p) = rd (mulOut n x y i d o) p
  | 0, i, o, hp, hw => ⟨Cg.of (by unfold sumF; show rd o p = _; omega), hw⟩
  | d + 1, i, o, hp, hw => by
    obtain ⟨h1, h2⟩ := mulIn_rd n x y i p (unitsL n).length 0 o hp hw
    obtain ⟨h3, h4⟩ := mulOut_rd p d (i + 1) (mulIn n x y i 0 (unitsL n).length o) (by rw [mulIn_length]; exact hp) h2
    rw [mulOut_succ]
    refine ⟨h3.trans ((Cg.add h1 (Cg.refl _)).trans (Cg.of ?_)), h4⟩
    show _ = rd o p + (sumF 0 (unitsL n).length (fun k => hitI n x y i k p) + sumF (i + 1) d (fun i => sumF 0 (unitsL n).length (fun k => hitI n x y i k p)))
    omega
theorem mulL_rd (p : Nat) (hp : p < (unitsL n).length) :
    Cg (rd (mulL n x y) p) (sumF 0 (unitsL n).length (fun i => sumF 0 (unitsL n).length (fun k => hitI n x y i k p))) ∧ wrap64 (rd (mulL n x y) p) = rd (mulL n x y) p := by
  have h0 : rd (List.replicate (unitsL n).length (0 : Int)) p = 0 := by rw [rd_nat _ _ (by simpa using hp)]; simp
  obtain ⟨h1, h2⟩ := mulOut_rd n x y p (unitsL n).length 0 (List.replicate (unitsL n).length 0) (by simpa using hp) (by rw [h0]; exact wrap_id (by omega) (by omega))
  rw [h0] at h1
  exact ⟨h1.trans (Cg.of (by omega)), h2⟩
end
theorem mulPos_comm (n : Int) (i k : Nat) : mulPos n i k = mulPos n k i := by unfold mulPos; rw [Int.mul_comm]
theorem mulPos_lt {n : Int} (h2 : 2 ≤ n) (h40 : n ≤ 40) {i k : Nat} (hi : i < (unitsL n).length) (hk : k < (unitsL n).length) : mulPos n i k < (unitsL n).length :=
  List.idxOf_lt_length_of_mem (mul_unit h2 h40 (unit_at hi) (unit_at hk))
theorem list_ext_rd {a b : List Int} (hl : a.length = b.length) (h : ∀ p : Nat, p < a.length → rd a p = rd b p) : a = b := by
  refine List.ext_getElem hl (fun p h1 h2 => ?_)
  rw [← rd_nat a p h1, ← rd_nat b p h2]
  exact h p h1
theorem mulL_comm (n : Int) (x y : List Int) : mulL n x y = mulL n y x := by
  refine list_ext_rd (by rw [mulL_length, mulL_length]) (fun p hp => ?_)
  rw [mulL_length] at hp
  obtain ⟨h1, h2⟩ := mulL_rd n x y p hp
  obtain ⟨h3, h4⟩ := mulL_rd n y x p hp
  have e : sumF 0 (unitsL n).length (fun i => sumF 0 (unitsL n).length (fun k => hitI n x y i k p)) = sumF 0 (unitsL n).length (fun i => sumF 0 (unitsL n).length (fun k => hitI n y x i k p)) := by
    rw [sumF_swap]
    refine sumF_congr _ 0 (fun i _ _ => sumF_congr _ 0 (fun k _ _ => ?_))
    unfold hitI
    rw [mulPos_comm, Int.mul_comm]
  rw [← h2, ← h4]
  exact (h1.trans ((Cg.of e).trans h3.symm)).eq
/-- The total of a product is the product of the totals. -/
theorem mulL_sum {n : Int} {x y : List Int} (h2 : 2 ≤ n) (h40 : n ≤ 40) (hx : x.length = (unitsL n).length) (hy : y.length = (unitsL n).length) : wsum 0 (mulL n x y) = wrap64 (wsum 0 x * wsum 0 y) := by
  rw [← wsum_wrapped (mulL n x y) 0 (wrap_id (by omega) (by omega))]
  refine Cg.eq ?_
  refine (wsum_sum _).trans ?_
  rw [mulL_length]
  have s1 : Cg (sumF 0 (unitsL n).length fun j => rd (mulL n x y) j) (sumF 0 (unitsL n).length fun p => sumF 0 (unitsL n).length (fun i => sumF 0 (unitsL n).length (fun k => hitI n x y i k p))) :=
    sumF_cg _ 0 (fun p _ hp => (mulL_rd n x y p (by omega)).1)
  have s2 : (sumF 0 (unitsL n).length fun p => sumF 0 (unitsL n).length (fun i => sumF 0 (unitsL n).length (fun k => hitI n x y i k p))) = sumF 0 (unitsL n).length (fun i => sumF 0 (unitsL n).length (fun k => rd x i * rd y k)) := by
    rw [sumF_swap]
    refine sumF_congr _ 0 (fun i _ hi => ?_)
    rw [sumF_swap]
    refine sumF_congr _ 0 (fun k _ hk => ?_)
    exact sumF_hit (mulPos n i k) (fun _ => rd x i * rd y k) _ 0 (Nat.zero_le _) (by have := mulPos_lt h2 h40 (i := i) (k := k) (by omega) (by omega); omega)
  have s3 : sumF 0 (unitsL n).length (fun i => sumF 0 (unitsL n).length (fun k => rd x i * rd y k)) = sumF 0 (unitsL n).length (fun i => rd x i) * sumF 0 (unitsL n).length (fun k => rd y k) := by
    rw [← sumF_right]
    exact sumF_congr _ 0 (fun i _ _ => sumF_left _ _ _ _)
  refine (s1.trans (Cg.of (s2.trans s3))).trans ?_
  have ex := wsum_sum x
  have ey := wsum_sum y
  rw [hx] at ex
  rw [hy] at ey
  exact (Cg.mul ex ey).symm
end Go.Proofs.Ytlpooghphoohcaa.F
/- Cyclotomic numbers as lists: the powers of a root of unity, and what reducing, an image and a product come to. Plain facts. -/
set_option linter.unusedVariables false
set_option linter.unusedSimpArgs false
namespace Go.Proofs.Ytlpooghphoohcaa.F
open Go.RowKit Go.Proofs.Ytlpooghphoohcaa.R

/-- The n-th cyclotomic polynomial, n from 1 to 16. -/
def cycF : Nat → List Int
  | 1 => [-1, 1] | 2 => [1, 1] | 3 => [1, 1, 1] | 4 => [1, 0, 1] | 5 => [1, 1, 1, 1, 1] | 6 => [1, -1, 1] | 7 => [1, 1, 1, 1, 1, 1, 1] | 8 => [1, 0, 0, 0, 1]
  | 9 => [1, 0, 0, 1, 0, 0, 1] | 10 => [1, -1, 1, -1, 1] | 11 => [1, 1, 1, 1, 1, 1, 1, 1, 1, 1, 1] | 12 => [1, 0, -1, 0, 1] | 13 => [1, 1, 1, 1, 1, 1, 1, 1, 1, 1, 1, 1, 1]
  | 14 => [1, -1, 1, -1, 1, -1, 1] | 15 => [1, -1, 0, 1, -1, 1, 0, -1, 1] | 16 => [1, 0, 0, 0, 0, 0, 0, 0, 1] | _ => []
def cycD (n : Nat) : Nat := (cycF n).length - 1
def cycNext (f v : List Int) : List Int := List.zipWith (fun a b => a - v.getLastD 0 * b) (0 :: v.dropLast) f
def cycRows (f : List Int) : Nat → List Int → List (List Int)
  | 0, _ => []
  | d + 1, v => v :: cycRows f d (cycNext f v)
/-- The powers of the root: n rows. -/
def cycP (n : Nat) : List (List Int) := cycRows (cycF n) n (1 :: List.replicate ((cycF n).length - 2) 0)
/-- The m-th part of the j-th power. -/
def cycW (n m j : Nat) : Int := ((cycP n).getD (j % n) []).getD m 0
def cycOk (n : Nat) : Bool :=
  ((cycF n).length == cycD n + 1) && ((unitsL (n : Int)).length == cycD n) && (decide (1 ≤ cycD n ∧ cycD n ≤ 12 ∧ cycD n ≤ n)) && (rd (cycF n) (cycD n : Nat) == 1) &&
  ((cycP n).length == n) && ((cycP n).all fun r => r.length == cycD n && r.all fun x => decide (-1 ≤ x ∧ x ≤ 1)) &&
  ((List.range n).all fun s => (List.range (cycD n)).all fun m => sumF 0 (cycD n + 1) (fun i => rd (cycF n) i * cycW n m (s + i)) == 0) &&
  ((List.range (cycD n)).all fun j => (List.range (cycD n)).all fun m => cycW n m j == if m = j then 1 else 0)
theorem cyc_all : ((List.range 16).all fun q => cycOk (q + 1)) = true := by decide +kernel
theorem cyc_ok {n : Nat} (h1 : 1 ≤ n) (h2 : n ≤ 16) : cycOk n = true := by
  have h := List.all_eq_true.1 cyc_all (n - 1) (List.mem_range.2 (by omega))
  have e : n - 1 + 1 = n := by omega
  rwa [e] at h
structure CycFacts (n : Nat) : Prop where
  lenF : (cycF n).length = cycD n + 1
  units : (unitsL (n : Int)).length = cycD n
  pos : 1 ≤ cycD n
  le12 : cycD n ≤ 12
  leN : cycD n ≤ n
  lead : rd (cycF n) (cycD n : Nat) = 1
  lenP : (cycP n).length = n
  row : ∀ r ∈ cycP n, r.length = cycD n ∧ ∀ x ∈ r, -1 ≤ x ∧ x ≤ 1
  kill : ∀ s, s < n → ∀ m, m < cycD n → sumF 0 (cycD n + 1) (fun i => rd (cycF n) i * cycW n m (s + i)) = 0
  unit : ∀ j, j < cycD n → ∀ m, m < cycD n → cycW n m j = if m = j then 1 else 0
theorem cyc_facts {n : Nat} (h1 : 1 ≤ n) (h2 : n ≤ 16) : CycFacts n := by
  have h := cyc_ok h1 h2
  unfold cycOk at h
  simp only [Bool.and_eq_true, beq_iff_eq, decide_eq_true_eq, List.all_eq_true, List.mem_range] at h
  obtain ⟨⟨⟨⟨⟨⟨⟨a, b⟩, c⟩, d⟩, e⟩, f⟩, g⟩, i⟩ := h
  exact ⟨a, b, c.1, c.2.1, c.2.2, d, e, f, g, i⟩
theorem cycW_mod (n m j : Nat) : cycW n m (j % n) = cycW n m j := by unfold cycW; rw [Nat.mod_mod]
theorem cyc_kill {n : Nat} (C : CycFacts n) (hn : 1 ≤ n) (s m : Nat) (hm : m < cycD n) : sumF 0 (cycD n + 1) (fun i => rd (cycF n) i * cycW n m (s + i)) = 0 := by
  rw [← C.kill (s % n) (Nat.mod_lt _ hn) m hm]
  refine sumF_congr _ 0 (fun i _ _ => ?_)
  rw [← cycW_mod n m (s + i), ← cycW_mod n m (s % n + i), Nat.mod_add_mod]
theorem cycW_small {n : Nat} (C : CycFacts n) (hn : 1 ≤ n) (m j : Nat) : -1 ≤ cycW n m j ∧ cycW n m j ≤ 1 := by
  unfold cycW
  have hl : j % n < (cycP n).length := by rw [C.lenP]; exact Nat.mod_lt _ hn
  rw [List.getD_eq_getElem?_getD (l := cycP n), List.getElem?_eq_getElem hl, Option.getD_some]
  have hr := C.row _ (List.getElem_mem hl)
  generalize (cycP n)[j % n] = r at hr
  rw [List.getD_eq_getElem?_getD]
  by_cases h : m < r.length
  · rw [List.getElem?_eq_getElem h, Option.getD_some]; exact hr.2 _ (List.getElem_mem h)
  · rw [List.getElem?_eq_none (by omega), Option.getD_none]; omega

/-! ### A list against weights -/
def dot (L : List Int) (w : Nat → Int) : Int := sumF 0 L.length (fun j => rd L j * w j)
def Wrapped (L : List Int) : Prop := ∀ j : Nat, j < L.length → wrap64 (rd L j) = rd L j
theorem Wrapped.set {L : List Int} (h : Wrapped L) (q : Nat) (v : Int) : Wrapped (L.set q (wrap64 v)) := by
  intro j hj
  rw [List.length_set] at hj
  rw [rd_set L q j _ hj]
  by_cases c : q = j
  · rw [if_pos c]; exact wrap_wrap _
  · rw [if_neg c]; exact h j hj
theorem wrap_zero : wrap64 0 = 0 := wrap_id (by omega) (by omega)
theorem wrapped_zeros (d : Nat) : Wrapped (List.replicate d 0) := by
  intro j hj
  rw [rd_nat _ _ hj, List.getElem_replicate]; exact wrap_zero
theorem rd_out (L : List Int) (j : Nat) (h : L.length ≤ j) : rd L j = 0 := by
  unfold rd
  rw [Int.toNat_natCast, List.getD_eq_getElem?_getD, List.getElem?_eq_none h]; rfl
theorem dot_zeros (d : Nat) (w : Nat → Int) : dot (List.replicate d 0) w = 0 := by
  unfold dot
  refine (sumF_congr _ 0 (fun j _ hj => ?_)).trans (sumF_zero _ 0)
  rw [rd_nat _ _ (by omega), List.getElem_replicate, Int.zero_mul]
theorem dot_set (L : List Int) (q : Nat) (v : Int) (w : Nat → Int) (hq : q < L.length) : dot (L.set q v) w = dot L w + (v - rd L q) * w q := by
  unfold dot
  rw [List.length_set]
  have e : sumF 0 L.length (fun j => rd (L.set q v) j * w j) = sumF 0 L.length (fun j => rd L j * w j + (if q = j then (v - rd L j) * w j else 0)) := sumF_congr _ 0 (fun j _ hj => by
    rw [rd_set L q j v (by omega)]
    by_cases c : q = j
    · rw [if_pos c, if_pos c, Int.sub_mul]; omega
    · rw [if_neg c, if_neg c, Int.add_zero])
  rw [e, sumF_add, sumF_hit q (fun j => (v - rd L j) * w j) _ 0 (Nat.zero_le _) (by omega)]
/-- One number put, told up to 2^64. -/
theorem dot_put (L : List Int) (q : Nat) (v : Int) (w : Nat → Int) (hq : q < L.length) : Cg (dot (L.set q (wrap64 (rd L q + v))) w) (dot L w + v * w q) := by
  rw [dot_set L q _ w hq]
  refine Cg.add (Cg.refl _) (Cg.mul ?_ (Cg.refl _))
  exact (Cg.sub (Cg.wrap _) (Cg.refl _)).trans (Cg.of (by omega))
theorem cg_wrap {a b : Int} (h : Cg a b) : Cg (wrap64 a) b := (Cg.wrap a).trans h

/-! ### Reducing -/
def redIn (F : List Int) (v : Int) (p : Nat) : Nat → Nat → List Int → List Int
  | 0, _, L => L
  | d + 1, c, L => redIn F v p d (c + 1) (L.set (p + c) (wrap64 (rd L (p + c : Nat) - wrap64 (v * rd F c))))
theorem redIn_facts (F : List Int) (v : Int) (p : Nat) : ∀ (d c : Nat) (L : List Int), p + c + d ≤ L.length → Wrapped L →
    (redIn F v p d c L).length = L.length ∧ Wrapped (redIn F v p d c L) ∧ (∀ w : Nat → Int, Cg (dot (redIn F v p d c L) w) (dot L w - v * sumF c d (fun i => rd F i * w (p + i)))) ∧
      (∀ j : Nat, j < L.length → j < p + c ∨ p + c + d ≤ j → rd (redIn F v p d c L) j = rd L j) ∧ (∀ i, c ≤ i → i < c + d → rd (redIn F v p d c L) (p + i : Nat) = wrap64 (rd L (p + i : Nat) - wrap64 (v * rd F i)))
  | 0, c, L, _, hw => ⟨rfl, hw, fun w => Cg.of (by show dot L w = dot L w - v * 0; omega), fun _ _ _ => rfl, fun i h1 h2 => by omega⟩
  | d + 1, c, L, hl, hw => by
    obtain ⟨a1, a2, a3, a4, a5⟩ := redIn_facts F v p d (c + 1) (L.set (p + c) (wrap64 (rd L (p + c : Nat) - wrap64 (v * rd F c)))) (by rw [List.length_set]; omega) (hw.set _ _)
    rw [List.length_set] at a1 a4
    unfold redIn
    refine ⟨a1, a2, fun w => ?_, fun j hj hc => ?_, fun i h1 h2 => ?_⟩
    · refine (a3 w).trans ?_
      have e : sumF c (d + 1) (fun i => rd F i * w (p + i)) = rd F c * w (p + c) + sumF (c + 1) d (fun i => rd F i * w (p + i)) := rfl
      rw [e, Int.mul_add, ← Int.mul_assoc]
      have h := dot_put L (p + c) (- wrap64 (v * rd F c)) w (by omega)
      rw [← Int.sub_eq_add_neg] at h
      have h2 : Cg (- wrap64 (v * rd F c)) (-(v * rd F c)) := by obtain ⟨t, ht⟩ := Cg.wrap (v * rd F c); exact ⟨-t, by omega⟩
      have h3 := Cg.sub (h.trans (Cg.add (Cg.refl (dot L w)) (Cg.mul h2 (Cg.refl (w (p + c)))))) (Cg.refl (v * sumF (c + 1) d (fun i => rd F i * w (p + i))))
      rw [Int.neg_mul] at h3
      exact h3.trans (Cg.of (by omega))
    · rw [a4 j hj (by omega), rd_set _ _ _ _ hj, if_neg (by omega)]
    · by_cases hi : i = c
      · subst hi
        rw [a4 (p + i) (by omega) (by omega), rd_set _ _ _ _ (by omega), if_pos rfl]
      · rw [a5 i (by omega) (by omega), rd_set _ _ _ _ (by omega), if_neg (by omega)]
/-- From index x - 1 down. -/
def redOut (F : List Int) (D : Nat) : Nat → List Int → List Int
  | 0, L => L
  | x + 1, L => if D ≤ x then redOut F D x (redIn F (rd L x) (x - D) (D + 1) 0 L) else L
theorem redOut_facts {n : Nat} (C : CycFacts n) (hn : 1 ≤ n) : ∀ (x : Nat) (L : List Int), x ≤ L.length → Wrapped L → (∀ j : Nat, x ≤ j → j < L.length → cycD n ≤ j → rd L j = 0) →
    (redOut (cycF n) (cycD n) x L).length = L.length ∧ Wrapped (redOut (cycF n) (cycD n) x L) ∧ (∀ m, m < cycD n → Cg (dot (redOut (cycF n) (cycD n) x L) (cycW n m)) (dot L (cycW n m))) ∧
      (∀ j : Nat, j < L.length → cycD n ≤ j → rd (redOut (cycF n) (cycD n) x L) j = 0)
  | 0, L, _, hw, hz => ⟨rfl, hw, fun m _ => Cg.refl _, fun j h1 h2 => hz j (Nat.zero_le _) h1 h2⟩
  | x + 1, L, hx, hw, hz => by
    unfold redOut
    by_cases hD : cycD n ≤ x
    · rw [if_pos hD]
      obtain ⟨a1, a2, a3, a4, a5⟩ := redIn_facts (cycF n) (rd L x) (x - cycD n) (cycD n + 1) 0 L (by omega) hw
      obtain ⟨b1, b2, b3, b4⟩ := redOut_facts C hn x (redIn (cycF n) (rd L x) (x - cycD n) (cycD n + 1) 0 L) (by rw [a1]; omega) a2 (by
        intro j h1 h2 h3
        rw [a1] at h2
        by_cases hj : j = x
        · have h := a5 (cycD n) (Nat.zero_le _) (by omega)
          have e : x - cycD n + cycD n = x := by omega
          rw [e, C.lead, Int.mul_one, hw x (by omega), Int.sub_self] at h
          rw [hj, h]; exact wrap_zero
        · rw [a4 j h2 (by omega)]
          exact hz j (by omega) h2 h3)
      rw [a1] at b1 b4
      refine ⟨b1, b2, fun m hm => (b3 m hm).trans ((a3 _).trans (Cg.of ?_)), b4⟩
      rw [cyc_kill C hn (x - cycD n) m hm]; omega
    · rw [if_neg hD]
      exact ⟨rfl, hw, fun m _ => Cg.refl _, fun j h1 h2 => hz j (by omega) h1 h2⟩
theorem redL_rd {n : Nat} (C : CycFacts n) (hn : 1 ≤ n) (L : List Int) (hw : Wrapped L) (m : Nat) (hm : m < cycD n) :
    rd (redOut (cycF n) (cycD n) L.length L) m = wrap64 (dot L (cycW n m)) := by
  obtain ⟨a1, a2, a3, a4⟩ := redOut_facts C hn L.length L (Nat.le_refl _) hw (fun j h1 h2 _ => by omega)
  rw [← (a3 m hm).eq]
  generalize redOut (cycF n) (cycD n) L.length L = R at a1 a2 a4
  have e : dot R (cycW n m) = sumF 0 L.length (fun j => if m = j then rd R j else 0) := by
    unfold dot
    rw [a1]
    refine sumF_congr _ 0 (fun j _ hj => ?_)
    by_cases hD : j < cycD n
    · rw [C.unit j hD m hm]
      by_cases c : m = j
      · rw [if_pos c, if_pos c, Int.mul_one]
      · rw [if_neg c, if_neg c, Int.mul_zero]
    · rw [a4 j (by omega) (by omega), Int.zero_mul]
      by_cases c : m = j
      · rw [if_pos c]
      · rw [if_neg c]
  rw [e]
  by_cases hl : m < L.length
  · rw [sumF_hit m (fun j => rd R j) _ 0 (Nat.zero_le _) (by omega)]
    exact (a2 m (by omega)).symm
  · rw [sumF_miss m (fun j => rd R j) _ 0 (by omega), rd_out R m (by omega)]; exact wrap_zero.symm
/-- The list of g 0, .., g (d - 1). -/
def tab (d : Nat) (g : Nat → Int) : List Int := (List.range d).map g
theorem tab_length (d : Nat) (g : Nat → Int) : (tab d g).length = d := by simp [tab]
theorem tab_rd (d : Nat) (g : Nat → Int) (m : Nat) (hm : m < d) : rd (tab d g) m = g m := by rw [rd_nat _ _ (by rw [tab_length]; exact hm)]; simp [tab]
theorem tab_ext {d : Nat} {g : Nat → Int} {L : List Int} (hl : L.length = d) (h : ∀ m : Nat, m < d → rd L m = g m) : L = tab d g :=
  list_ext_rd (by rw [hl, tab_length]) (fun p hp => by rw [h p (by omega), tab_rd _ _ _ (by omega)])
theorem tab_congr {d : Nat} {f g : Nat → Int} (h : ∀ m, m < d → f m = g m) : tab d f = tab d g :=
  tab_ext (tab_length _ _) (fun m hm => by rw [tab_rd _ _ _ hm, h m hm])
theorem tab_zero (d : Nat) : List.replicate d 0 = tab d (fun _ => 0) := tab_ext (by simp) (fun m hm => by rw [rd_nat _ _ (by simpa using hm), List.getElem_replicate])
theorem tab_set (d : Nat) (g : Nat → Int) (q : Nat) (v : Int) : (tab d g).set q v = tab d (fun m => if q = m then v else g m) :=
  tab_ext (by rw [List.length_set, tab_length]) (fun m hm => by rw [rd_set _ _ _ _ (by rw [tab_length]; exact hm), tab_rd _ _ _ hm])

/-! ### Adding a multiple, products and images -/
def addIn (y : List Int) (v : Int) (p : Nat) : Nat → Nat → List Int → List Int
  | 0, _, L => L
  | d + 1, c, L => addIn y v p d (c + 1) (L.set (p + c) (wrap64 (rd L (p + c : Nat) + wrap64 (v * rd y c))))
theorem addIn_facts (y : List Int) (v : Int) (p : Nat) : ∀ (d c : Nat) (L : List Int), p + c + d ≤ L.length → Wrapped L →
    (addIn y v p d c L).length = L.length ∧ Wrapped (addIn y v p d c L) ∧ (∀ w : Nat → Int, Cg (dot (addIn y v p d c L) w) (dot L w + v * sumF c d (fun i => rd y i * w (p + i))))
  | 0, c, L, _, hw => ⟨rfl, hw, fun w => Cg.of (by show dot L w = dot L w + v * 0; omega)⟩
  | d + 1, c, L, hl, hw => by
    obtain ⟨a1, a2, a3⟩ := addIn_facts y v p d (c + 1) (L.set (p + c) (wrap64 (rd L (p + c : Nat) + wrap64 (v * rd y c)))) (by rw [List.length_set]; omega) (hw.set _ _)
    rw [List.length_set] at a1
    unfold addIn
    refine ⟨a1, a2, fun w => ?_⟩
    refine (a3 w).trans ?_
    have e : sumF c (d + 1) (fun i => rd y i * w (p + i)) = rd y c * w (p + c) + sumF (c + 1) d (fun i => rd y i * w (p + i)) := rfl
    rw [e, Int.mul_add, ← Int.mul_assoc]
    have h := dot_put L (p + c) (wrap64 (v * rd y c)) w (by omega)
    have h3 := Cg.add (h.trans (Cg.add (Cg.refl (dot L w)) (Cg.mul (Cg.wrap (v * rd y c)) (Cg.refl (w (p + c)))))) (Cg.refl (v * sumF (c + 1) d (fun i => rd y i * w (p + i))))
    exact h3.trans (Cg.of (by omega))
def addOut (x y : List Int) : Nat → Nat → List Int → List Int
  | 0, _, L => L
  | d + 1, i, L => addOut x y d (i + 1) (addIn y (rd x i) i y.length 0 L)
theorem addOut_facts (x y : List Int) : ∀ (d i : Nat) (L : List Int), (1 ≤ d → i + d + y.length ≤ L.length + 1) → Wrapped L →
    (addOut x y d i L).length = L.length ∧ Wrapped (addOut x y d i L) ∧ (∀ w : Nat → Int, Cg (dot (addOut x y d i L) w) (dot L w + sumF i d (fun i => rd x i * sumF 0 y.length (fun k => rd y k * w (i + k)))))
  | 0, i, L, _, hw => ⟨rfl, hw, fun w => Cg.of (by show dot L w = dot L w + 0; omega)⟩
  | d + 1, i, L, hl, hw => by
    obtain ⟨b1, b2, b3⟩ := addIn_facts y (rd x i) i y.length 0 L (by omega) hw
    obtain ⟨a1, a2, a3⟩ := addOut_facts x y d (i + 1) (addIn y (rd x i) i y.length 0 L) (by rw [b1]; omega) b2
    unfold addOut
    refine ⟨a1.trans b1, a2, fun w => ?_⟩
    refine (a3 w).trans ((Cg.add (b3 w) (Cg.refl _)).trans (Cg.of ?_))
    have e : sumF i (d + 1) (fun i => rd x i * sumF 0 y.length (fun k => rd y k * w (i + k))) = rd x i * sumF 0 y.length (fun k => rd y k * w (i + k)) + sumF (i + 1) d (fun i => rd x i * sumF 0 y.length (fun k => rd y k * w (i + k))) := rfl
    rw [e]; omega
/-- The m-th part of the product. -/
def bil (n : Nat) (x y : List Int) (m : Nat) : Int := sumF 0 x.length (fun i => rd x i * sumF 0 y.length (fun k => rd y k * cycW n m (i + k)))
/-- The m-th part of the image under the root's a-th power. -/
def gal (n : Nat) (x : List Int) (a : Int) (m : Nat) : Int := sumF 0 x.length (fun i => rd x i * cycW n m (((i : Int) * a) % n).toNat)
def galIn (n : Nat) (x : List Int) (a : Int) : Nat → Nat → List Int → List Int
  | 0, _, L => L
  | d + 1, i, L => galIn n x a d (i + 1) (L.set (((i : Int) * a) % n).toNat (wrap64 (rd L ((((i : Int) * a) % n).toNat : Nat) + rd x i)))
theorem galIn_facts (n : Nat) (hn : 1 ≤ n) (x : List Int) (a : Int) : ∀ (d i : Nat) (L : List Int), L.length = n → Wrapped L →
    (galIn n x a d i L).length = n ∧ Wrapped (galIn n x a d i L) ∧ (∀ w : Nat → Int, Cg (dot (galIn n x a d i L) w) (dot L w + sumF i d (fun i => rd x i * w (((i : Int) * a) % n).toNat)))
  | 0, i, L, hl, hw => ⟨hl, hw, fun w => Cg.of (by show dot L w = dot L w + 0; omega)⟩
  | d + 1, i, L, hl, hw => by
    have hq : (((i : Int) * a) % n).toNat < L.length := by
      have h1 := Int.emod_nonneg ((i : Int) * a) (b := n) (by omega)
      have h2 := Int.emod_lt_of_pos ((i : Int) * a) (b := n) (by omega)
      omega
    obtain ⟨a1, a2, a3⟩ := galIn_facts n hn x a d (i + 1) (L.set (((i : Int) * a) % n).toNat (wrap64 (rd L ((((i : Int) * a) % n).toNat : Nat) + rd x i))) (by rw [List.length_set]; exact hl) (hw.set _ _)
    unfold galIn
    refine ⟨a1, a2, fun w => ?_⟩
    refine (a3 w).trans ((Cg.add (dot_put L _ (rd x i) w hq) (Cg.refl _)).trans (Cg.of ?_))
    have e : sumF i (d + 1) (fun i => rd x i * w (((i : Int) * a) % n).toNat) = rd x i * w (((i : Int) * a) % n).toNat + sumF (i + 1) d (fun i => rd x i * w (((i : Int) * a) % n).toNat) := rfl
    rw [e]; omega
def within (B : Int) (L : List Int) : Prop := ∀ j : Nat, j < L.length → -B ≤ rd L j ∧ rd L j ≤ B
theorem dot_one (L : List Int) (m : Nat) (hm : m < L.length) : dot L (fun j => if m = j then 1 else 0) = rd L m := by
  unfold dot
  rw [← sumF_hit m (fun j => rd L j) L.length 0 (Nat.zero_le _) (by omega)]
  refine sumF_congr _ 0 (fun j _ _ => ?_)
  dsimp only
  by_cases c : m = j
  · rw [if_pos c, if_pos c, Int.mul_one]
  · rw [if_neg c, if_neg c, Int.mul_zero]
/-- The q-th power's row. -/
def cycRow (n q : Nat) : List Int := (cycP n).getD q []
theorem cycRow_facts {n : Nat} (C : CycFacts n) (hn : 1 ≤ n) {q : Nat} (hq : q < n) : (cycRow n q).length = cycD n ∧ (∀ x ∈ cycRow n q, -1 ≤ x ∧ x ≤ 1) ∧ ∀ m, rd (cycRow n q) (m : Nat) = cycW n m q := by
  have hl : q < (cycP n).length := by rw [C.lenP]; exact hq
  have e : cycRow n q = (cycP n)[q] := by unfold cycRow; rw [List.getD_eq_getElem?_getD, List.getElem?_eq_getElem hl, Option.getD_some]
  have h := C.row _ (List.getElem_mem hl)
  rw [← e] at h
  refine ⟨h.1, h.2, fun m => ?_⟩
  unfold cycW rd
  rw [Nat.mod_eq_of_lt hq, Int.toNat_natCast]; rfl
/-- Each part times the power q of its place, added up. -/
def imIn (n : Nat) (x : List Int) (q : Nat → Nat) : Nat → Nat → List Int → List Int
  | 0, _, o => o
  | d + 1, i, o => imIn n x q d (i + 1) (addIn (cycRow n (q i)) (rd x i) 0 (cycD n) 0 o)
theorem imIn_facts {n : Nat} (C : CycFacts n) (hn : 1 ≤ n) (x : List Int) (q : Nat → Nat) : ∀ (d i : Nat) (o : List Int), (∀ j, i ≤ j → j < i + d → q j < n) → o.length = cycD n → Wrapped o →
    (imIn n x q d i o).length = cycD n ∧ Wrapped (imIn n x q d i o) ∧ ∀ m : Nat, m < cycD n → Cg (rd (imIn n x q d i o) m) (rd o m + sumF i d (fun i => rd x i * cycW n m (q i)))
  | 0, i, o, hq, hl, hw => ⟨hl, hw, fun m _ => Cg.of (by show rd o m = rd o m + 0; omega)⟩
  | d + 1, i, o, hq, hl, hw => by
    obtain ⟨r1, r2, r3⟩ := cycRow_facts C hn (hq i (Nat.le_refl _) (by omega))
    obtain ⟨b1, b2, b3⟩ := addIn_facts (cycRow n (q i)) (rd x i) 0 (cycD n) 0 o (by omega) hw
    obtain ⟨a1, a2, a3⟩ := imIn_facts C hn x q d (i + 1) _ (fun j h1 h2 => hq j (by omega) (by omega)) (b1.trans hl) b2
    unfold imIn
    refine ⟨a1, a2, fun m hm => (a3 m hm).trans ?_⟩
    have h := b3 (fun j => if m = j then 1 else 0)
    rw [dot_one _ _ (by rw [b1]; omega), dot_one _ _ (by omega)] at h
    have e0 : sumF 0 (cycD n) (fun i_1 => rd (cycRow n (q i)) i_1 * (if m = 0 + i_1 then 1 else 0)) = cycW n m (q i) := by
      have := dot_one (cycRow n (q i)) m (by rw [r1]; exact hm)
      rw [r3] at this
      rw [← this]
      unfold dot
      rw [r1]
      exact sumF_congr _ 0 (fun j _ _ => by rw [Nat.zero_add])
    rw [e0] at h
    have e : sumF i (d + 1) (fun i => rd x i * cycW n m (q i)) = rd x i * cycW n m (q i) + sumF (i + 1) d (fun i => rd x i * cycW n m (q i)) := rfl
    rw [e]
    exact (Cg.add h (Cg.refl _)).trans (Cg.of (by omega))
def galQ (n : Nat) (x : List Int) (q : Nat → Nat) (m : Nat) : Int := sumF 0 x.length (fun i => rd x i * cycW n m (q i))
theorem imIn_tab {n : Nat} (C : CycFacts n) (hn : 1 ≤ n) (x : List Int) (q : Nat → Nat) (hq : ∀ j, j < x.length → q j < n) :
    imIn n x q x.length 0 (List.replicate (cycD n) 0) = tab (cycD n) fun m => wrap64 (galQ n x q m) := by
  obtain ⟨a1, a2, a3⟩ := imIn_facts C hn x q x.length 0 (List.replicate (cycD n) 0) (fun j _ h => hq j (by omega)) (by simp) (wrapped_zeros _)
  refine tab_ext a1 (fun m hm => ?_)
  rw [← a2 m (by omega)]
  refine ((a3 m hm).trans (Cg.of ?_)).eq
  rw [rd_nat _ _ (by simpa using hm), List.getElem_replicate, Int.zero_add]; rfl
/-- The low and the high digits of a number. -/
def lo5 (v : Int) : Int := Int.tmod v 100000
def hi5 (v : Int) : Int := wrap64 (Int.tdiv v 100000)
theorem lohi {v : Int} (h : -16000000000 ≤ v ∧ v ≤ 16000000000) : v = 100000 * hi5 v + lo5 v ∧ (-100000 ≤ lo5 v ∧ lo5 v ≤ 100000) ∧ (-160000 ≤ hi5 v ∧ hi5 v ≤ 160000) := by
  have h1 : Int.tmod v 100000 = v - 100000 * Int.tdiv v 100000 := Int.tmod_def v 100000
  have h2 := Int.tmod_lt_of_pos v (b := 100000) (by omega)
  have h3 := Int.lt_tmod_of_pos v (b := 100000) (by omega)
  have e : hi5 v = Int.tdiv v 100000 := wrap_id (by omega) (by omega)
  rw [e]
  unfold lo5
  omega
theorem rd_map (f : Int → Int) (L : List Int) (j : Nat) (hj : j < L.length) : rd (L.map f) j = f (rd L j) := by
  rw [rd_nat _ _ (by rw [List.length_map]; exact hj), rd_nat _ _ hj, List.getElem_map]
theorem bil_split (n : Nat) (x y : List Int) (hy : ∀ k : Nat, k < y.length → -16000000000 ≤ rd y k ∧ rd y k ≤ 16000000000) (m : Nat) : bil n x y m = 100000 * bil n x (y.map hi5) m + bil n x (y.map lo5) m := by
  unfold bil
  rw [List.length_map, List.length_map, ← sumF_left, ← sumF_add]
  refine sumF_congr _ 0 (fun i _ hi => ?_)
  have e : sumF 0 y.length (fun k => rd y k * cycW n m (i + k)) = 100000 * sumF 0 y.length (fun k => rd (y.map hi5) k * cycW n m (i + k)) + sumF 0 y.length (fun k => rd (y.map lo5) k * cycW n m (i + k)) := by
    rw [← sumF_left, ← sumF_add]
    refine sumF_congr _ 0 (fun k _ hk => ?_)
    rw [rd_map _ _ _ (by omega), rd_map _ _ _ (by omega)]
    have h := (lohi (hy k (by omega))).1
    rw [← Int.mul_assoc, ← Int.add_mul, ← h]
  rw [e, Int.mul_add, ← Int.mul_assoc, ← Int.mul_assoc, Int.mul_comm (rd x i) 100000]
/-- The product fits. -/
def okB (n : Nat) (x y : List Int) : Bool := smallL (tab (cycD n) (bil n x y))
theorem smallL_tab {d : Nat} {g : Nat → Int} : smallL (tab d g) = true ↔ ∀ m, m < d → -1000000000 ≤ g m ∧ g m ≤ 1000000000 := by
  unfold smallL tab
  simp only [List.all_map, List.all_eq_true, List.mem_range, Function.comp, decide_eq_true_eq]
theorem smallL_within {L : List Int} : smallL L = true ↔ within 1000000000 L := by
  unfold smallL within
  rw [List.all_eq_true]
  constructor
  · intro h j hj
    have := h (rd L j) (by rw [rd_nat _ _ hj]; exact List.getElem_mem hj)
    simpa using this
  · intro h x hx
    obtain ⟨j, hj, rfl⟩ := List.mem_iff_getElem.1 hx
    have := h j hj
    rw [rd_nat _ _ hj] at this
    simpa using this
theorem addIn_length (y : List Int) (v : Int) (p : Nat) : ∀ (d c : Nat) (L : List Int), (addIn y v p d c L).length = L.length
  | 0, c, L => rfl
  | d + 1, c, L => by unfold addIn; rw [addIn_length y v p d, List.length_set]
/-- A product that fits, or none. -/
def mulO (n : Nat) (x y : List Int) : Option (List Int) := if okB n x y = true then some (tab (cycD n) (bil n x y)) else none
/-- A list of n's length whose parts are small. -/
def GoodZ (n : Nat) (z : List Int) : Prop := z.length = cycD n ∧ within 1000000000 z
def FairZ (n : Nat) (z : List Int) : Prop := z.length = cycD n ∧ within 16000000000 z
theorem good_small {n : Nat} {z : List Int} (h : GoodZ n z) : smallL z = true := smallL_within.2 h.2
theorem mulO_good {n : Nat} {x y z : List Int} (h : mulO n x y = some z) : GoodZ n z := by
  unfold mulO at h
  by_cases c : okB n x y = true
  · rw [if_pos c] at h
    cases h
    exact ⟨tab_length _ _, smallL_within.1 c⟩
  · rw [if_neg c] at h; cases h
/-- The products of a list's numbers, one after the other, as long as they fit. -/
def runO (n : Nat) : List (List Int) → List Int → Option (List Int)
  | [], z => some z
  | y :: t, z => (mulO n z y).bind (runO n t)
theorem runO_good {n : Nat} : ∀ (ys : List (List Int)) (z R : List Int), GoodZ n z → runO n ys z = some R → GoodZ n R
  | [], z, R, hz, h => by unfold runO at h; cases h; exact hz
  | y :: t, z, R, hz, h => by
    unfold runO at h
    obtain ⟨z', h1, h2⟩ := Option.bind_eq_some_iff.1 h
    exact runO_good t z' R (mulO_good h1) h2
def oneT (n : Nat) : List Int := tab (cycD n) fun m => if m = 0 then 1 else 0
theorem oneT_good (n : Nat) : GoodZ n (oneT n) := by
  refine ⟨tab_length _ _, fun j hj => ?_⟩
  rw [oneT, tab_length] at hj
  rw [oneT, tab_rd _ _ _ hj]
  by_cases c : j = 0
  · rw [if_pos c]; omega
  · rw [if_neg c]; omega
def imT (n : Nat) (x : List Int) (a : Int) : List Int := tab (cycD n) fun m => wrap64 (gal n x a m)
/-- The images, each as often as the ring's part says. -/
def imgs (n : Nat) (x U r : List Int) : Nat → Nat → List (List Int)
  | 0, _ => []
  | d + 1, i => List.replicate (rd r i).toNat (imT n x (rd U i)) ++ imgs n x U r d (i + 1)
/-! ### Bounds -/
theorem sumF_le {f : Nat → Int} {B : Int} : ∀ (d k : Nat), (∀ i, k ≤ i → i < k + d → -B ≤ f i ∧ f i ≤ B) → -((d : Int) * B) ≤ sumF k d f ∧ sumF k d f ≤ (d : Int) * B
  | 0, k, _ => by unfold sumF; omega
  | d + 1, k, h => by
    have h1 := h k (Nat.le_refl _) (by omega)
    have h2 := sumF_le d (k + 1) (fun i h1 h2 => h i (by omega) (by omega))
    have e : ((d + 1 : Nat) : Int) * B = (d : Int) * B + B := by rw [Int.natCast_add, Int.add_mul]; omega
    rw [e]
    unfold sumF
    omega
theorem mul_le {a b A B : Int} (h1 : -A ≤ a ∧ a ≤ A) (h2 : -B ≤ b ∧ b ≤ B) : -(A * B) ≤ a * b ∧ a * b ≤ A * B := by
  have ha : a.natAbs ≤ A.natAbs := by omega
  have hb : b.natAbs ≤ B.natAbs := by omega
  have h := Nat.mul_le_mul ha hb
  rw [← Int.natAbs_mul, ← Int.natAbs_mul] at h
  have hA : 0 ≤ A := by omega
  have hB : 0 ≤ B := by omega
  have hAB := Int.mul_nonneg hA hB
  omega
theorem gal_le {n : Nat} (C : CycFacts n) (hn : 1 ≤ n) {x : List Int} {B : Int} (hB : 0 ≤ B) (hx : within B x) (hl : x.length ≤ 12) (a : Int) (m : Nat) : -(12 * B) ≤ gal n x a m ∧ gal n x a m ≤ 12 * B := by
  have h := sumF_le (B := B) (f := fun i => rd x i * cycW n m (((i : Int) * a) % n).toNat) x.length 0 (fun i _ hi => by
    have := mul_le (hx i (by omega)) (cycW_small C hn m (((i : Int) * a) % n).toNat)
    rwa [Int.mul_one] at this)
  have h2 : (x.length : Int) * B ≤ 12 * B := Int.mul_le_mul_of_nonneg_right (by omega) hB
  unfold gal
  omega
theorem imT_fair {n : Nat} (C : CycFacts n) (hn : 1 ≤ n) {x : List Int} (hx : GoodZ n x) (a : Int) : FairZ n (imT n x a) := by
  refine ⟨tab_length _ _, fun j hj => ?_⟩
  rw [imT, tab_length] at hj
  have := C.le12
  have h := gal_le C hn (B := 1000000000) (by omega) hx.2 (by rw [hx.1]; omega) a j
  rw [imT, tab_rd _ _ _ hj, wrap_id (by omega) (by omega)]
  omega
theorem imgs_fair {n : Nat} (C : CycFacts n) (hn : 1 ≤ n) {x : List Int} (hx : GoodZ n x) (U r : List Int) : ∀ (d i : Nat), ∀ y ∈ imgs n x U r d i, FairZ n y
  | 0, _, y, h => by cases h
  | d + 1, i, y, h => by
    unfold imgs at h
    rcases List.mem_append.1 h with h | h
    · rw [(List.mem_replicate.1 h).2]; exact imT_fair C hn hx _
    · exact imgs_fair C hn hx U r d (i + 1) y h
theorem bil_le {n : Nat} (C : CycFacts n) (hn : 1 ≤ n) {x y : List Int} {A B : Int} (hA : 0 ≤ A) (hB : 0 ≤ B) (hx : within A x) (hy : within B y) (hl : x.length ≤ 12) (hl2 : y.length ≤ 12) (m : Nat) : -(144 * (A * B)) ≤ bil n x y m ∧ bil n x y m ≤ 144 * (A * B) := by
  have hAB := Int.mul_nonneg hA hB
  have h := sumF_le (B := 12 * (A * B)) (f := fun i => rd x i * sumF 0 y.length (fun k => rd y k * cycW n m (i + k))) x.length 0 (fun i _ hi => by
    have h1 := sumF_le (B := B) (f := fun k => rd y k * cycW n m (i + k)) y.length 0 (fun k _ hk => by
      have := mul_le (hy k (by omega)) (cycW_small C hn m (i + k))
      rwa [Int.mul_one] at this)
    have h2 : (y.length : Int) * B ≤ 12 * B := Int.mul_le_mul_of_nonneg_right (by omega) hB
    have h3 := mul_le (hx i (by omega)) (b := sumF 0 y.length (fun k => rd y k * cycW n m (i + k))) (B := 12 * B) (by omega)
    have e : A * (12 * B) = 12 * (A * B) := by rw [← Int.mul_assoc, Int.mul_comm A 12, Int.mul_assoc]
    rwa [e] at h3)
  have h2 : (x.length : Int) * (12 * (A * B)) ≤ 12 * (12 * (A * B)) := Int.mul_le_mul_of_nonneg_right (by omega) (by omega)
  unfold bil
  omega
end Go.Proofs.Ytlpooghphoohcaa.F
/- Products and images of cyclotomic numbers: an image of a product is the product of the images. Plain facts. -/
set_option linter.unusedVariables false
set_option linter.unusedSimpArgs false
namespace Go.Proofs.Ytlpooghphoohcaa.F
open Go.RowKit Go.Proofs.Ytlpooghphoohcaa.R

/-- The rows of n's powers, and what a product of two of them is. -/
def cycMulOk (n : Nat) : Bool := (List.range n).all fun s => (List.range n).all fun t => (List.range (cycD n)).all fun m => sumF 0 (cycD n) (fun i => cycW n i s * cycW n m (i + t)) == cycW n m (s + t)
def cycGalOk (n : Nat) : Bool := (List.range n).all fun a => (Nat.gcd a n != 1) || (List.range n).all fun s => (List.range (cycD n)).all fun m => sumF 0 (cycD n) (fun j => cycW n j s * cycW n m ((j * a) % n)) == cycW n m ((s * a) % n)
theorem cyc_mul_all : ((List.range 16).all fun q => cycMulOk (q + 1)) = true := by decide +kernel
theorem cyc_gal_all : ((List.range 16).all fun q => cycGalOk (q + 1)) = true := by decide +kernel
theorem cycW_add (n m i t : Nat) : cycW n m (i + t % n) = cycW n m (i + t) := by rw [← cycW_mod n m (i + t % n), ← cycW_mod n m (i + t), Nat.add_mod_mod]
theorem cycW_mul (n m i a : Nat) : cycW n m ((i % n) * a) = cycW n m (i * a) := by rw [← cycW_mod n m (i % n * a), ← cycW_mod n m (i * a), Nat.mod_mul_mod]
theorem cyc_mul {n : Nat} (h1 : 1 ≤ n) (h2 : n ≤ 16) (s t m : Nat) (hm : m < cycD n) : sumF 0 (cycD n) (fun i => cycW n i s * cycW n m (i + t)) = cycW n m (s + t) := by
  have h := List.all_eq_true.1 cyc_mul_all (n - 1) (List.mem_range.2 (by omega))
  have e : n - 1 + 1 = n := by omega
  rw [e] at h
  unfold cycMulOk at h
  simp only [List.all_eq_true, List.mem_range, beq_iff_eq] at h
  have g := h (s % n) (Nat.mod_lt _ h1) (t % n) (Nat.mod_lt _ h1) m hm
  rw [cycW_add, Nat.add_comm, cycW_add, Nat.add_comm] at g
  rw [← g]
  exact sumF_congr _ 0 (fun i _ _ => by rw [cycW_mod, cycW_add])
theorem cyc_gal {n : Nat} (h1 : 1 ≤ n) (h2 : n ≤ 16) (a : Nat) (ha : Nat.gcd a n = 1) (s m : Nat) (hm : m < cycD n) : sumF 0 (cycD n) (fun j => cycW n j s * cycW n m (j * a)) = cycW n m (s * a) := by
  have h := List.all_eq_true.1 cyc_gal_all (n - 1) (List.mem_range.2 (by omega))
  have e : n - 1 + 1 = n := by omega
  rw [e] at h
  unfold cycGalOk at h
  simp only [List.all_eq_true, List.mem_range, beq_iff_eq, Bool.or_eq_true, bne_iff_ne] at h
  have g := (h (a % n) (Nat.mod_lt _ h1)).resolve_left (fun c => c (by rw [← Nat.gcd_rec, Nat.gcd_comm]; exact ha)) (s % n) (Nat.mod_lt _ h1) m hm
  have e1 : ∀ j, cycW n m (j * (a % n) % n) = cycW n m (j * a) := fun j => by rw [Nat.mul_mod_mod, cycW_mod]
  rw [e1, cycW_mul] at g
  rw [← g]
  exact sumF_congr _ 0 (fun i _ _ => by rw [cycW_mod, e1])
theorem lin (f : Nat → Int) (g : Nat → Nat → Int) (h : Nat → Int) (D L : Nat) : sumF 0 D (fun j => sumF 0 L (fun i => f i * g i j) * h j) = sumF 0 L (fun i => f i * sumF 0 D (fun j => g i j * h j)) := by
  have e1 : sumF 0 D (fun j => sumF 0 L (fun i => f i * g i j) * h j) = sumF 0 D (fun j => sumF 0 L (fun i => f i * (g i j * h j))) := sumF_congr _ 0 (fun j _ _ => by
    rw [← sumF_right]; exact sumF_congr _ 0 (fun i _ _ => Int.mul_assoc _ _ _))
  rw [e1, sumF_swap]
  exact sumF_congr _ 0 (fun i _ _ => sumF_left _ _ _ _)
theorem lin2 (f : Nat → Int) (g : Nat → Nat → Int) (h : Nat → Int) (D L : Nat) : sumF 0 D (fun j => h j * sumF 0 L (fun i => f i * g i j)) = sumF 0 L (fun i => f i * sumF 0 D (fun j => h j * g i j)) := by
  have e : sumF 0 D (fun j => h j * sumF 0 L (fun i => f i * g i j)) = sumF 0 D (fun j => sumF 0 L (fun i => f i * g i j) * h j) := sumF_congr _ 0 (fun j _ _ => Int.mul_comm _ _)
  rw [e, lin]
  exact sumF_congr _ 0 (fun i _ _ => by rw [sumF_congr D 0 (fun j _ _ => Int.mul_comm (g i j) (h j))])
/-- The image's m-th part, the place told by a natural number. -/
def galN (n : Nat) (x : List Int) (a m : Nat) : Int := sumF 0 x.length (fun i => rd x i * cycW n m (i * a))
theorem gal_nat (n : Nat) (x : List Int) (a m : Nat) : gal n x (a : Int) m = galN n x a m := by
  unfold gal galN
  refine sumF_congr _ 0 (fun i _ _ => ?_)
  have e : (((i : Int) * (a : Int)) % (n : Int)).toNat = (i * a) % n := by
    rw [← Int.natCast_mul, ← Int.natCast_emod, Int.toNat_natCast]
  rw [e, cycW_mod]
/-- An image of a product is the product of the images. -/
theorem gal_bil {n : Nat} (h1 : 1 ≤ n) (h2 : n ≤ 16) (a : Nat) (ha : Nat.gcd a n = 1) (x y : List Int) (m : Nat) (hm : m < cycD n) :
    galN n (tab (cycD n) (bil n x y)) a m = bil n (tab (cycD n) (galN n x a)) (tab (cycD n) (galN n y a)) m := by
  have L : galN n (tab (cycD n) (bil n x y)) a m = sumF 0 x.length (fun i => rd x i * sumF 0 y.length (fun k => rd y k * cycW n m (i * a + k * a))) := by
    unfold galN
    rw [tab_length]
    rw [sumF_congr (cycD n) 0 (g := fun j => sumF 0 x.length (fun i => rd x i * sumF 0 y.length (fun k => rd y k * cycW n j (i + k))) * cycW n m (j * a)) (fun j _ hj => by rw [tab_rd _ _ _ (by omega)]; rfl)]
    rw [lin]
    refine sumF_congr _ 0 (fun i _ _ => congrArg (rd x i * ·) ?_)
    rw [lin]
    refine sumF_congr _ 0 (fun k _ _ => congrArg (rd y k * ·) ?_)
    rw [cyc_gal h1 h2 a ha _ m hm, Nat.add_mul]
  rw [L]
  unfold bil
  rw [tab_length, tab_length]
  have e1 : ∀ p, sumF 0 (cycD n) (fun q => rd (tab (cycD n) (galN n y a)) q * cycW n m (p + q)) = sumF 0 y.length (fun k => rd y k * cycW n m (k * a + p)) := fun p => by
    rw [sumF_congr (cycD n) 0 (g := fun q => sumF 0 y.length (fun k => rd y k * cycW n q (k * a)) * cycW n m (q + p)) (fun q _ hq => by rw [tab_rd _ _ _ (by omega), Nat.add_comm p q]; rfl)]
    rw [lin]
    exact sumF_congr _ 0 (fun k _ _ => congrArg (rd y k * ·) (cyc_mul h1 h2 _ _ m hm))
  rw [sumF_congr (cycD n) 0 (g := fun p => sumF 0 x.length (fun i => rd x i * cycW n p (i * a)) * sumF 0 y.length (fun k => rd y k * cycW n m (k * a + p))) (fun p _ hp => by rw [tab_rd _ _ _ (by omega), e1]; rfl)]
  rw [lin]
  refine sumF_congr _ 0 (fun i _ _ => congrArg (rd x i * ·) ?_)
  rw [lin2]
  refine sumF_congr _ 0 (fun k _ _ => congrArg (rd y k * ·) ?_)
  rw [← cyc_mul h1 h2 (i * a) (k * a) m hm]
  exact sumF_congr _ 0 (fun p _ _ => by rw [Nat.add_comm (k * a) p])
/-- An image of an image. -/
theorem gal_gal {n : Nat} (h1 : 1 ≤ n) (h2 : n ≤ 16) (a b : Nat) (hb : Nat.gcd b n = 1) (x : List Int) (m : Nat) (hm : m < cycD n) :
    galN n (tab (cycD n) (galN n x a)) b m = galN n x (a * b) m := by
  unfold galN
  rw [tab_length, sumF_congr (cycD n) 0 (g := fun j => sumF 0 x.length (fun i => rd x i * cycW n j (i * a)) * cycW n m (j * b)) (fun j _ hj => by rw [tab_rd _ _ _ (by omega)])]
  rw [lin]
  refine sumF_congr _ 0 (fun i _ _ => congrArg (rd x i * ·) ?_)
  rw [cyc_gal h1 h2 b hb _ m hm, Nat.mul_assoc]
/-- An image of a list of n's powers, told by their places. -/
theorem gal_galQ {n : Nat} (h1 : 1 ≤ n) (h2 : n ≤ 16) (b : Nat) (hb : Nat.gcd b n = 1) (x : List Int) (q : Nat → Nat) (m : Nat) (hm : m < cycD n) :
    galN n (tab (cycD n) (galQ n x q)) b m = sumF 0 x.length (fun i => rd x i * cycW n m (q i * b)) := by
  unfold galN galQ
  rw [tab_length, sumF_congr (cycD n) 0 (g := fun j => sumF 0 x.length (fun i => rd x i * cycW n j (q i)) * cycW n m (j * b)) (fun j _ hj => by rw [tab_rd _ _ _ (by omega)])]
  rw [lin]
  exact sumF_congr _ 0 (fun i _ _ => congrArg (rd x i * ·) (cyc_gal h1 h2 b hb _ m hm))
theorem gal_one {n : Nat} (C : CycFacts n) (x : List Int) (hx : x.length = cycD n) (a : Nat) (ha : a % n = 1 % n) (m : Nat) (hm : m < cycD n) : galN n x a m = rd x m := by
  have e : galN n x a m = dot x (fun j => if m = j then 1 else 0) := by
    unfold galN dot
    refine sumF_congr _ 0 (fun i _ hi => congrArg (rd x i * ·) ?_)
    show cycW n m (i * a) = if m = i then 1 else 0
    rw [← C.unit i (by omega) m hm, ← cycW_mod n m (i * a), Nat.mul_mod, ha, ← Nat.mul_mod, Nat.mul_one, cycW_mod]
  rw [e, dot_one x m (by omega)]
end Go.Proofs.Ytlpooghphoohcaa.F
/- Whole numbers in floats of 64 bits: what a word stands for, how it is rounded, sums and products. -/
set_option linter.unusedVariables false
namespace Go.Proofs.Ytlpooghphoohcaa.F.Fl
open Ieee
/-- The number mag * 2 ^ place (with its sign) is the whole number n. -/
def Val (neg : Bool) (mag : Nat) (place : Int) (n : Int) : Prop := signed neg mag place.toNat = n * 2 ^ (-place).toNat
/-- The word b stands for the whole number n. -/
def Is (b : Nat) (n : Int) : Prop := ∃ neg mag place, double.read b = .number neg mag place ∧ Val neg mag place n
def sg (neg : Bool) : Int := if neg then -1 else 1
theorem signed_eq (neg : Bool) (mag up : Nat) : signed neg mag up = sg neg * (mag : Int) * 2 ^ up := by
  unfold signed sg
  rw [Nat.shiftLeft_eq]
  cases neg <;> simp [Int.neg_mul]
theorem val_at {neg : Bool} {mag : Nat} {place n : Int} (h : Val neg mag place n) (base : Int) (hb : base ≤ place) (hb0 : base ≤ 0) : signed neg mag (place - base).toNat = n * 2 ^ (-base).toNat := by
  unfold Val at h
  rw [signed_eq] at h ⊢
  rcases Int.le_total 0 place with hp | hp
  · have e1 : (place - base).toNat = place.toNat + (-base).toNat := by omega
    have e2 : (-place).toNat = 0 := by omega
    rw [e2, Int.pow_zero, Int.mul_one] at h
    rw [e1, Int.pow_add, ← Int.mul_assoc, h]
  · have e1 : place.toNat = 0 := by omega
    have e2 : (-base).toNat = (-place).toNat + (place - base).toNat := by omega
    rw [e1, Int.pow_zero, Int.mul_one] at h
    rw [h, e2, Int.pow_add, Int.mul_assoc]
theorem dS : double.signWeight = 9223372036854775808 := by decide
theorem dB : double.binade = 4503599627370496 := by decide
theorem dI : double.infRung = 9218868437227405312 := by decide
theorem dL : double.leastPlace = -1074 := by decide
theorem is_zero : Is 0 0 := ⟨false, 0, -1074, by (rw [← dL]; rfl), by unfold Val; rw [signed_eq, show ((0 : Nat) : Int) = 0 from rfl, Int.mul_zero, Int.zero_mul, Int.zero_mul]⟩
theorem read_word (neg : Bool) (r : Nat) (h1 : 4503599627370496 ≤ r) (h2 : r < 9218868437227405312) :
    double.read (double.word neg r) = .number neg (4503599627370496 + r % 4503599627370496) (-1074 + ((r / 4503599627370496 - 1 : Nat) : Int)) := by
  unfold Format.read Format.word
  simp only [dS, dB, dI, dL]
  cases neg
  · have e1 : r / 9223372036854775808 = 0 := by omega
    have e2 : r % 9223372036854775808 = r := by omega
    simp only [Bool.false_eq_true, if_false, e1, e2]
    rw [if_neg (by omega), if_pos h2]; rfl
  · have e1 : (9223372036854775808 + r) / 9223372036854775808 = 1 := by omega
    have e2 : (9223372036854775808 + r) % 9223372036854775808 = r := by omega
    simp only [if_true, e1, e2]
    rw [if_neg (by omega), if_pos h2]; rfl
theorem cut_even (neg : Bool) (n d : Nat) (h : d ≤ n.log2) : ∃ e, e ≤ 1 ∧ Toward.even.cut neg n d = n / 2 ^ d + e ∧ (n % 2 ^ d = 0 → e = 0) := by
  unfold Toward.cut
  have e1 : min d (n.log2 + 2) = d := by omega
  simp only [e1, Nat.one_shiftLeft]
  refine ⟨_, ?_, rfl, ?_⟩
  · exact Bool.toNat_le _
  · intro h0
    simp [h0]
theorem near_form (neg : Bool) (mag : Nat) (place : Int) (hm : mag ≠ 0) (hl : 0 ≤ place + (mag.log2 : Int)) (hu : place + (mag.log2 : Int) < 90) :
    ∃ kept, 4503599627370496 ≤ kept ∧ kept ≤ 9007199254740992 ∧ double.nearest neg mag place = double.word neg ((place + mag.log2 - 52 + 1074).toNat * 4503599627370496 + kept) ∧
      (52 ≤ mag.log2 → ∃ e, e ≤ 1 ∧ kept = mag / 2 ^ (mag.log2 - 52) + e ∧ (mag % 2 ^ (mag.log2 - 52) = 0 → e = 0)) ∧ (mag.log2 < 52 → kept = mag * 2 ^ (52 - mag.log2)) := by
  have h1 := Nat.log2_self_le hm
  have h2 := @Nat.lt_log2_self mag
  have hf : double.fractionBits = 52 := rfl
  have hlast : max (place + (mag.log2 : Int) - 52) (-1074) = place + mag.log2 - 52 := by omega
  have hne : double.nearest neg mag place = double.word neg (min ((place + mag.log2 - 52 + 1074).toNat * 4503599627370496 + Toward.even.cut neg (mag <<< (place - (place + mag.log2 - 52)).toNat) ((place + mag.log2 - 52) - place).toNat) 9218868437227405312) := by
    unfold Format.nearest
    rw [if_neg hm]
    simp only [hf, dL, dB, dI]
    have : max (place + (mag.log2 : Int) - ((52 : Nat) : Int)) (-1074) = place + mag.log2 - 52 := by omega
    rw [this]
    have : (place + (mag.log2 : Int) - 52 - -1074) = place + mag.log2 - 52 + 1074 := by omega
    rw [this]
  rcases Nat.lt_or_ge mag.log2 52 with hL | hL
  · have e1 : (place - (place + (mag.log2 : Int) - 52)).toNat = 52 - mag.log2 := by omega
    have e2 : ((place + (mag.log2 : Int) - 52) - place).toNat = 0 := by omega
    obtain ⟨e, _, he, hz⟩ := cut_even neg (mag <<< (52 - mag.log2)) 0 (Nat.zero_le _)
    have hz' := hz (by rw [Nat.pow_zero, Nat.mod_one])
    subst hz'
    rw [Nat.pow_zero, Nat.div_one, Nat.add_zero, Nat.shiftLeft_eq] at he
    have k1 : 4503599627370496 ≤ mag * 2 ^ (52 - mag.log2) := by
      have : 2 ^ mag.log2 * 2 ^ (52 - mag.log2) = 4503599627370496 := by rw [← Nat.pow_add, show mag.log2 + (52 - mag.log2) = 52 by omega]
      rw [← this]; exact Nat.mul_le_mul_right _ h1
    have k2 : mag * 2 ^ (52 - mag.log2) ≤ 9007199254740992 := by
      have : 2 ^ (mag.log2 + 1) * 2 ^ (52 - mag.log2) = 9007199254740992 := by rw [← Nat.pow_add, show mag.log2 + 1 + (52 - mag.log2) = 53 by omega]
      rw [← this]; exact Nat.mul_le_mul_right _ (Nat.le_of_lt h2)
    refine ⟨_, k1, k2, ?_, fun h => by omega, fun _ => rfl⟩
    rw [hne, e1, e2, Nat.shiftLeft_eq, he, Nat.min_eq_left (by omega)]
  · have e1 : (place - (place + (mag.log2 : Int) - 52)).toNat = 0 := by omega
    have e2 : ((place + (mag.log2 : Int) - 52) - place).toNat = mag.log2 - 52 := by omega
    obtain ⟨e, he1, he, hz⟩ := cut_even neg mag (mag.log2 - 52) (by omega)
    have hp := Nat.two_pow_pos (mag.log2 - 52)
    have k1 : 4503599627370496 ≤ mag / 2 ^ (mag.log2 - 52) := by
      rw [Nat.le_div_iff_mul_le hp, show 4503599627370496 = 2 ^ 52 from rfl, ← Nat.pow_add, show 52 + (mag.log2 - 52) = mag.log2 by omega]; exact h1
    have k2 : mag / 2 ^ (mag.log2 - 52) < 9007199254740992 := by
      rw [Nat.div_lt_iff_lt_mul hp, show 9007199254740992 = 2 ^ 53 from rfl, ← Nat.pow_add, show 53 + (mag.log2 - 52) = mag.log2 + 1 by omega]; exact h2
    refine ⟨mag / 2 ^ (mag.log2 - 52) + e, by omega, by omega, ?_, fun _ => ⟨e, he1, rfl, hz⟩, fun h => by omega⟩
    rw [hne, e1, e2, Nat.shiftLeft_zero, he, Nat.min_eq_left (by omega)]
theorem sg_sq (neg : Bool) : sg neg * sg neg = 1 := by cases neg <;> rfl
theorem val_form {neg : Bool} {mag : Nat} {place n : Int} (h : Val neg mag place n) : n = sg neg * (n.natAbs : Int) ∨ n = 0 := by
  rcases Int.lt_trichotomy n 0 with h1 | h1 | h1
  · left
    unfold Val at h
    rw [signed_eq] at h
    have hq : (0 : Int) < 2 ^ (-place).toNat := Int.pow_pos (by decide)
    have : n * 2 ^ (-place).toNat < 0 := Int.mul_neg_of_neg_of_pos h1 hq
    cases neg
    · exfalso
      have h2 : (0 : Int) ≤ sg false * (mag : Int) * 2 ^ place.toNat := Int.mul_nonneg (by simp [sg]) (Int.le_of_lt (Int.pow_pos (by decide)))
      omega
    · simp only [sg, if_true]; omega
  · right; exact h1
  · left
    unfold Val at h
    rw [signed_eq] at h
    have hq : (0 : Int) < 2 ^ (-place).toNat := Int.pow_pos (by decide)
    have : 0 < n * 2 ^ (-place).toNat := Int.mul_pos h1 hq
    cases neg
    · simp only [sg, Bool.false_eq_true, if_false]; omega
    · exfalso
      have h2 : (0 : Int) ≤ (mag : Int) * 2 ^ place.toNat := Int.mul_nonneg (by omega) (Int.le_of_lt (Int.pow_pos (by decide)))
      have h3 : sg true * (mag : Int) * 2 ^ place.toNat = -((mag : Int) * 2 ^ place.toNat) := by simp [sg, Int.neg_mul]
      omega
theorem val_nat {neg : Bool} {mag : Nat} {place n : Int} (h : Val neg mag place n) : mag * 2 ^ place.toNat = n.natAbs * 2 ^ (-place).toNat := by
  unfold Val at h
  rw [signed_eq] at h
  have := congrArg Int.natAbs h
  rw [Int.natAbs_mul, Int.natAbs_mul, Int.natAbs_mul, Int.natAbs_pow, Int.natAbs_pow] at this
  have hs : (sg neg).natAbs = 1 := by cases neg <;> rfl
  rw [hs, Nat.one_mul] at this
  exact this
/-- The value of kept units of place last, as it reads. -/
theorem reads (neg : Bool) (last : Int) (kept : Nat) (h1 : 4503599627370496 ≤ kept) (h2 : kept ≤ 9007199254740992) (hl : -52 ≤ last) (hu : last < 40) (n : Int)
    (hv : sg neg * (kept : Int) * 2 ^ last.toNat = n * 2 ^ (-last).toNat) : Is (double.word neg ((last + 1074).toNat * 4503599627370496 + kept)) n := by
  have hr := read_word neg ((last + 1074).toNat * 4503599627370496 + kept) (by omega) (by omega)
  rcases Nat.lt_or_ge kept 9007199254740992 with hk | hk
  · have e1 : 4503599627370496 + ((last + 1074).toNat * 4503599627370496 + kept) % 4503599627370496 = kept := by omega
    have e2 : (-1074 + (((((last + 1074).toNat * 4503599627370496 + kept) / 4503599627370496 - 1 : Nat) : Nat) : Int)) = last := by omega
    rw [e1, e2] at hr
    exact ⟨neg, kept, last, hr, by unfold Val; rw [signed_eq]; exact hv⟩
  · have hk' : kept = 9007199254740992 := by omega
    subst hk'
    have e1 : 4503599627370496 + ((last + 1074).toNat * 4503599627370496 + 9007199254740992) % 4503599627370496 = 4503599627370496 := by omega
    have e2 : (-1074 + (((((last + 1074).toNat * 4503599627370496 + 9007199254740992) / 4503599627370496 - 1 : Nat) : Nat) : Int)) = last + 1 := by omega
    rw [e1, e2] at hr
    refine ⟨neg, _, _, hr, ?_⟩
    unfold Val
    rw [signed_eq]
    rcases Int.lt_or_le last 0 with h0 | h0
    · have a1 : last.toNat = 0 := by omega
      have a2 : (last + 1).toNat = 0 := by omega
      have a3 : (-last).toNat = (-(last + 1)).toNat + 1 := by omega
      rw [a1, a3, Int.pow_succ, Int.pow_zero, Int.mul_one, ← Int.mul_assoc] at hv
      rw [a2, Int.pow_zero, Int.mul_one]
      omega
    · have a1 : (last + 1).toNat = last.toNat + 1 := by omega
      have a3 : (-last).toNat = 0 := by omega
      have a4 : (-(last + 1)).toNat = 0 := by omega
      rw [a3, Int.pow_zero, Int.mul_one] at hv
      rw [a1, a4, Int.pow_succ, Int.pow_zero, Int.mul_one, ← hv, Int.mul_comm (2 ^ last.toNat) 2, ← Int.mul_assoc, Int.mul_assoc (sg neg) _ 2]
      rfl
theorem pow_lt (a : Nat) (h : (2 : Nat) ^ a < 2 ^ 90) : a < 90 := (Nat.pow_lt_pow_iff_right (by decide)).1 h
/-- Rounding: a whole number of a size below 2 ^ 90 goes to a whole number at most 2 ^ 40 away; one below 2 ^ 53 to itself. -/
theorem rounds (neg : Bool) (mag : Nat) (place n : Int) (h : Val neg mag place n) (hn : n.natAbs < 2 ^ 90) :
    ∃ n' : Int, Is (double.nearest neg mag place) n' ∧ (n' - n).natAbs ≤ 2 ^ 40 ∧ (n.natAbs < 2 ^ 53 → n' = n) := by
  have hN := val_nat h
  have hS := val_form h
  have hq0 := Nat.two_pow_pos (-place).toNat
  have hp0 := Nat.two_pow_pos place.toNat
  by_cases hm : mag = 0
  · subst hm
    have hz : n.natAbs = 0 := by
      rw [Nat.zero_mul] at hN
      rcases Nat.mul_eq_zero.1 hN.symm with h | h
      · exact h
      · omega
    obtain rfl : n = 0 := by omega
    refine ⟨0, ?_, by decide, fun _ => rfl⟩
    unfold Format.nearest
    rw [if_pos rfl]
    refine ⟨neg, 0, -1074, ?_, by unfold Val; rw [signed_eq, show ((0 : Nat) : Int) = 0 from rfl, Int.mul_zero, Int.zero_mul, Int.zero_mul]⟩
    cases neg <;> decide
  have hn0 : n.natAbs ≠ 0 := by
    intro h0
    rw [h0, Nat.zero_mul] at hN
    rcases Nat.mul_eq_zero.1 hN with h | h
    · exact hm h
    · omega
  have hS' : n = sg neg * (n.natAbs : Int) := by rcases hS with h | h; exact h; omega
  obtain ⟨m, hmm⟩ : ∃ m, m = n.natAbs := ⟨_, rfl⟩
  rw [← hmm] at hN hn hn0 hS' ⊢
  obtain ⟨L, hLL⟩ : ∃ L, L = mag.log2 := ⟨_, rfl⟩
  have l1 : 2 ^ L ≤ mag := by rw [hLL]; exact Nat.log2_self_le hm
  have hl : 0 ≤ place + (L : Int) := by
    rcases Int.le_total 0 place with h | h
    · omega
    · have a1 : place.toNat = 0 := by omega
      rw [a1, Nat.pow_zero, Nat.mul_one] at hN
      have : (-place).toNat ≤ L := by
        rw [hLL, Nat.le_log2 hm, hN]; exact Nat.le_mul_of_pos_left _ (by omega)
      omega
  have hu : place + (L : Int) < 90 := by
    rcases Int.le_total 0 place with h | h
    · have a1 : (-place).toNat = 0 := by omega
      rw [a1, Nat.pow_zero, Nat.mul_one] at hN
      have : 2 ^ (L + place.toNat) < 2 ^ 90 := by
        rw [Nat.pow_add]; exact Nat.lt_of_le_of_lt (Nat.mul_le_mul_right _ l1) (by rw [hN]; exact hn)
      have := pow_lt _ this
      omega
    · have a1 : place.toNat = 0 := by omega
      rw [a1, Nat.pow_zero, Nat.mul_one] at hN
      have : 2 ^ L < 2 ^ (90 + (-place).toNat) := by
        rw [Nat.pow_add]; exact Nat.lt_of_le_of_lt l1 (by rw [hN]; exact Nat.mul_lt_mul_of_pos_right hn hq0)
      have := (Nat.pow_lt_pow_iff_right (by decide : 1 < 2)).1 this
      omega
  obtain ⟨kept, k1, k2, hne, hA, hB⟩ := near_form neg mag place hm (by omega) (by omega)
  rw [← hLL] at hne hA hB
  obtain ⟨last, hlast⟩ : ∃ last : Int, last = place + L - 52 := ⟨_, rfl⟩
  have e0 : place + (L : Int) - 52 + 1074 = last + 1074 := by omega
  rw [e0] at hne
  rw [hne]
  rcases (by omega : last ≤ 0 ∨ 0 < last) with hl0 | hl0
  · -- exact
    have hk : kept = m * 2 ^ (-last).toNat := by
      rcases Nat.lt_or_ge L 52 with hc | hc
      · rw [hB hc]
        rcases Int.le_total 0 place with h | h
        · have a1 : (-place).toNat = 0 := by omega
          rw [a1, Nat.pow_zero, Nat.mul_one] at hN
          rw [← hN, Nat.mul_assoc, ← Nat.pow_add]; congr 2; omega
        · have a1 : place.toNat = 0 := by omega
          rw [a1, Nat.pow_zero, Nat.mul_one] at hN
          rw [hN, Nat.mul_assoc, ← Nat.pow_add]; congr 2; omega
      · obtain ⟨e, _, he, hz⟩ := hA hc
        have a1 : place.toNat = 0 := by omega
        rw [a1, Nat.pow_zero, Nat.mul_one] at hN
        have a2 : (-place).toNat = (-last).toNat + (L - 52) := by omega
        rw [a2, Nat.pow_add, ← Nat.mul_assoc] at hN
        have := hz (by rw [hN]; exact Nat.mul_mod_left _ _)
        rw [he, this, hN, Nat.mul_div_cancel _ (Nat.two_pow_pos _), Nat.add_zero]
    refine ⟨n, reads neg last kept k1 k2 (by omega) (by omega) n ?_, by simp, fun _ => rfl⟩
    have a1 : last.toNat = 0 := by omega
    rw [a1, Int.pow_zero, Int.mul_one, hk, hS', Int.natCast_mul, Int.natCast_pow, ← Int.mul_assoc]; rfl
  · have hlt := Nat.two_pow_pos last.toNat
    have hdiff : (kept : Int) * 2 ^ last.toNat - (m : Int) ≤ 2 ^ last.toNat ∧ (m : Int) - (kept : Int) * 2 ^ last.toNat ≤ 2 ^ last.toNat := by
      have key : kept * 2 ^ last.toNat ≤ m + 2 ^ last.toNat ∧ m ≤ kept * 2 ^ last.toNat + 2 ^ last.toNat := by
        rcases Nat.lt_or_ge L 52 with hc | hc
        · have a1 : (-place).toNat = 0 := by omega
          rw [a1, Nat.pow_zero, Nat.mul_one] at hN
          have : kept * 2 ^ last.toNat = m := by
            rw [hB hc, ← hN, Nat.mul_assoc, ← Nat.pow_add]; congr 2; omega
          omega
        · obtain ⟨e, he1, he, _⟩ := hA hc
          have hd := Nat.two_pow_pos (L - 52)
          have hdm := Nat.div_add_mod mag (2 ^ (L - 52))
          have hr := Nat.mod_lt mag hd
          rcases Int.le_total 0 place with h | h
          · have a1 : (-place).toNat = 0 := by omega
            rw [a1, Nat.pow_zero, Nat.mul_one] at hN
            have a2 : last.toNat = (L - 52) + place.toNat := by omega
            have b1 : kept * 2 ^ last.toNat = (mag / 2 ^ (L - 52)) * 2 ^ (L - 52) * 2 ^ place.toNat + e * (2 ^ (L - 52) * 2 ^ place.toNat) := by
              rw [he, a2, Nat.pow_add, Nat.add_mul, ← Nat.mul_assoc]
            have b2 : m = (mag / 2 ^ (L - 52)) * 2 ^ (L - 52) * 2 ^ place.toNat + (mag % 2 ^ (L - 52)) * 2 ^ place.toNat := by
              rw [← Nat.add_mul, Nat.mul_comm (mag / 2 ^ (L - 52)), hdm, hN]
            have b3 : 2 ^ last.toNat = 2 ^ (L - 52) * 2 ^ place.toNat := by rw [a2, Nat.pow_add]
            have b4 : (mag % 2 ^ (L - 52)) * 2 ^ place.toNat ≤ 2 ^ (L - 52) * 2 ^ place.toNat := Nat.mul_le_mul_right _ (Nat.le_of_lt hr)
            have b5 : e * (2 ^ (L - 52) * 2 ^ place.toNat) ≤ 2 ^ (L - 52) * 2 ^ place.toNat := by
              have := Nat.mul_le_mul_right (2 ^ (L - 52) * 2 ^ place.toNat) he1
              rwa [Nat.one_mul] at this
            rw [b1, b3]; omega
          · have a1 : place.toNat = 0 := by omega
            rw [a1, Nat.pow_zero, Nat.mul_one] at hN
            have a2 : L - 52 = last.toNat + (-place).toNat := by omega
            have b3 : 2 ^ (L - 52) = 2 ^ last.toNat * 2 ^ (-place).toNat := by rw [a2, Nat.pow_add]
            have b1 : kept * 2 ^ last.toNat * 2 ^ (-place).toNat = (mag / 2 ^ (L - 52)) * 2 ^ (L - 52) + e * 2 ^ (L - 52) := by
              rw [he, b3, Nat.mul_assoc, Nat.add_mul]
            have b2 : m * 2 ^ (-place).toNat = (mag / 2 ^ (L - 52)) * 2 ^ (L - 52) + mag % 2 ^ (L - 52) := by
              rw [Nat.mul_comm (mag / 2 ^ (L - 52)), hdm, hN]
            have b5 : e * 2 ^ (L - 52) ≤ 2 ^ (L - 52) := by
              have := Nat.mul_le_mul_right (2 ^ (L - 52)) he1
              rwa [Nat.one_mul] at this
            constructor
            · refine Nat.le_of_mul_le_mul_right ?_ hq0
              rw [b1, Nat.add_mul, b2, ← b3]; omega
            · refine Nat.le_of_mul_le_mul_right ?_ hq0
              rw [b2, Nat.add_mul, b1, ← b3]; omega
      have c1 := key.1
      have c2 := key.2
      have d1 : ((kept * 2 ^ last.toNat : Nat) : Int) = (kept : Int) * 2 ^ last.toNat := by rw [Int.natCast_mul, Int.natCast_pow]; rfl
      have d2 : ((2 ^ last.toNat : Nat) : Int) = 2 ^ last.toNat := by rw [Int.natCast_pow]; rfl
      omega
    have hbig : (2 : Int) ^ last.toNat ≤ 2 ^ 40 := by
      have : (2 : Nat) ^ last.toNat ≤ 2 ^ 40 := Nat.pow_le_pow_right (by decide) (by omega)
      have d2 : ((2 ^ last.toNat : Nat) : Int) = 2 ^ last.toNat := by rw [Int.natCast_pow]; rfl
      omega
    refine ⟨sg neg * ((kept : Int) * 2 ^ last.toNat), reads neg last kept k1 k2 (by omega) (by omega) _ ?_, ?_, ?_⟩
    · have a3 : (-last).toNat = 0 := by omega
      rw [a3, Int.pow_zero, Int.mul_one, Int.mul_assoc]
    · rw [hS', ← Int.mul_sub, Int.natAbs_mul]
      have hs : (sg neg).natAbs = 1 := by cases neg <;> rfl
      rw [hs, Nat.one_mul]
      omega
    · intro hsm
      exfalso
      -- a number below 2 ^ 53 has no place above 0
      have : 2 ^ (52 + last.toNat) ≤ m := by
        rcases Int.le_total 0 place with h | h
        · have a1 : (-place).toNat = 0 := by omega
          rw [a1, Nat.pow_zero, Nat.mul_one] at hN
          rw [← hN, show 52 + last.toNat = L + place.toNat by omega, Nat.pow_add]
          exact Nat.mul_le_mul_right _ l1
        · have a1 : place.toNat = 0 := by omega
          rw [a1, Nat.pow_zero, Nat.mul_one] at hN
          refine Nat.le_of_mul_le_mul_right ?_ hq0
          rw [← hN, ← Nat.pow_add, show 52 + last.toNat + (-place).toNat = L by omega]
          exact l1
      have h53 : 2 ^ 53 ≤ 2 ^ (52 + last.toNat) := Nat.pow_le_pow_right (by decide) (by omega)
      omega
theorem read_range {b : Nat} {neg : Bool} {mag : Nat} {place : Int} (h : double.read b = .number neg mag place) : -1074 ≤ place := by
  unfold Format.read at h
  simp only [dS, dB, dI, dL] at h
  by_cases h1 : b % 9223372036854775808 < 4503599627370496
  · rw [if_pos h1] at h; injection h with _ _ h3; omega
  · rw [if_neg h1] at h
    by_cases h2 : b % 9223372036854775808 < 9218868437227405312
    · rw [if_pos h2] at h; injection h with _ _ h3; omega
    · rw [if_neg h2] at h
      by_cases h3 : b % 9223372036854775808 = 9218868437227405312
      · rw [if_pos h3] at h; cases h
      · rw [if_neg h3] at h; cases h
/-- total * 2 ^ base with its sign, base at most 0, is the whole number n. -/
theorem val_of (s : Bool) (total n : Int) (base : Int) (hb : base ≤ 0) (h : total = n * 2 ^ (-base).toNat) (hs : total ≠ 0 → s = decide (total < 0)) : Val s total.natAbs base n := by
  unfold Val
  rw [signed_eq, show base.toNat = 0 by omega, Int.pow_zero, Int.mul_one, ← h]
  by_cases h0 : total = 0
  · subst h0; simp
  · rw [hs h0]
    unfold sg
    by_cases h1 : total < 0
    · simp [h1]; omega
    · simp [h1]; omega
theorem is_sum {x y : Nat} {m n : Int} (hx : Is x m) (hy : Is y n) (hs : (m + n).natAbs < 2 ^ 90) : ∃ b n', double.add x y = some b ∧ Is b n' ∧ (n' - (m + n)).natAbs ≤ 2 ^ 40 := by
  obtain ⟨s, a, i, rx, vx⟩ := hx
  obtain ⟨t, c, j, ry, vy⟩ := hy
  unfold Format.add
  rw [rx, ry]
  obtain ⟨base, hbase⟩ : ∃ base : Int, base = min i j := ⟨_, rfl⟩
  simp only [Datum.sum, ← hbase, Option.map_some, Format.write]
  -- the same number with a place that is at most 0
  obtain ⟨total, htot⟩ : ∃ total : Int, total = signed s a (i - base).toNat + signed t c (j - base).toNat := ⟨_, rfl⟩
  rw [← htot]
  rcases (by omega : base ≤ 0 ∨ 0 < base) with hb | hb
  · have e1 := val_at vx base (by omega) hb
    have e2 := val_at vy base (by omega) hb
    rw [e1, e2, ← Int.add_mul] at htot
    obtain ⟨n', h1, h2, _⟩ := rounds _ _ base (m + n) (val_of (if total = 0 then s && t else decide (total < 0)) total (m + n) base hb htot (fun h => if_neg h)) hs
    exact ⟨_, n', rfl, h1, h2⟩
  · have hv : Val (if total = 0 then s && t else decide (total < 0)) total.natAbs base (m + n) := by
      unfold Val at vx vy ⊢
      rw [signed_eq] at vx vy ⊢
      rw [signed_eq, signed_eq] at htot
      rw [show (-i).toNat = 0 by omega, Int.pow_zero, Int.mul_one] at vx
      rw [show (-j).toNat = 0 by omega, Int.pow_zero, Int.mul_one] at vy
      rw [show (-base).toNat = 0 by omega, Int.pow_zero, Int.mul_one, ← vx, ← vy, show i.toNat = (i - base).toNat + base.toNat by omega, show j.toNat = (j - base).toNat + base.toNat by omega, Int.pow_add, Int.pow_add, ← Int.mul_assoc, ← Int.mul_assoc, ← Int.add_mul, ← htot]
      congr 1
      by_cases h0 : total = 0
      · rw [h0]; simp
      · rw [if_neg h0]
        unfold sg
        by_cases h1 : total < 0
        · simp [h1]; omega
        · simp [h1]; omega
    obtain ⟨n', h1, h2, _⟩ := rounds _ _ base (m + n) hv hs
    exact ⟨_, n', rfl, h1, h2⟩
theorem is_product {x y : Nat} {m n : Int} (hx : Is x m) (hy : Is y n) (hs : (m * n).natAbs < 2 ^ 90) : ∃ b n', double.mul x y = some b ∧ Is b n' ∧ (n' - m * n).natAbs ≤ 2 ^ 40 := by
  obtain ⟨s, a, i, rx, vx⟩ := hx
  obtain ⟨t, c, j, ry, vy⟩ := hy
  unfold Format.mul
  rw [rx, ry]
  simp only [Datum.product, Option.map_some, Format.write]
  have hv : Val (s ^^ t) (a * c) (i + j) (m * n) := by
    have sgx : sg (s ^^ t) = sg s * sg t := by cases s <;> cases t <;> rfl
    unfold Val at vx vy ⊢
    rw [signed_eq] at vx vy ⊢
    -- both sides times 2 ^ (what is lacking)
    obtain ⟨d, hd1, hd2⟩ : ∃ d : Nat, i.toNat + j.toNat = (i + j).toNat + d ∧ (-i).toNat + (-j).toNat = (-(i + j)).toNat + d := ⟨i.toNat + j.toNat - (i + j).toNat, by omega, by omega⟩
    have hp : (2 : Int) ^ d ≠ 0 := Int.ne_of_gt (Int.pow_pos (by decide))
    refine Int.eq_of_mul_eq_mul_right hp ?_
    have h : sg s * (a : Int) * 2 ^ i.toNat * (sg t * (c : Int) * 2 ^ j.toNat) = m * 2 ^ (-i).toNat * (n * 2 ^ (-j).toNat) := by rw [vx, vy]
    have e1 : sg s * (a : Int) * 2 ^ i.toNat * (sg t * (c : Int) * 2 ^ j.toNat) = sg s * sg t * ((a : Int) * (c : Int)) * (2 ^ i.toNat * 2 ^ j.toNat) := by ac_rfl
    have e2 : m * 2 ^ (-i).toNat * (n * 2 ^ (-j).toNat) = m * n * (2 ^ (-i).toNat * 2 ^ (-j).toNat) := by ac_rfl
    rw [e1, e2, ← Int.pow_add, ← Int.pow_add, hd1, hd2, Int.pow_add, Int.pow_add] at h
    rw [sgx, Int.natCast_mul, Int.mul_assoc _ (2 ^ (i + j).toNat) _, Int.mul_assoc _ (2 ^ (-(i + j)).toNat) _]
    exact h
  obtain ⟨n', h1, h2, _⟩ := rounds _ _ _ _ hv hs
  exact ⟨_, n', rfl, h1, h2⟩
theorem is_of_int (n : Int) (h : n.natAbs < 2 ^ 53) : Is (double.write (.number (n < 0) n.natAbs 0)) n := by
  have hv : Val (decide (n < 0)) n.natAbs 0 n := val_of _ n n 0 (by omega) (by simp) (fun _ => rfl)
  obtain ⟨n', h1, _, h3⟩ := rounds _ _ _ _ hv (Nat.lt_trans h (by decide))
  have := h3 h
  subst this
  exact h1
/-- How two whole numbers stand to each other. -/
theorem is_order {x y : Nat} {m n : Int} (hx : Is x m) (hy : Is y n) : double.order x y = some (compare m n) := by
  obtain ⟨s, a, i, rx, vx⟩ := hx
  obtain ⟨t, c, j, ry, vy⟩ := hy
  unfold Format.order
  rw [rx, ry]
  obtain ⟨base, hbase⟩ : ∃ base : Int, base = min i j := ⟨_, rfl⟩
  simp only [Datum.order, ← hbase]
  have key : ∀ (u v m n : Int) (p q : Int), 0 < p → 0 < q → u * q = m * p → v * q = n * p → compare u v = compare m n := by
    intro u v m n p q hp hq h1 h2
    have a1 : u < v ↔ m < n := by
      constructor
      · intro h
        have := Int.mul_lt_mul_of_pos_right h hq
        rw [h1, h2] at this
        exact Int.lt_of_mul_lt_mul_right this (Int.le_of_lt hp)
      · intro h
        have := Int.mul_lt_mul_of_pos_right h hp
        rw [← h1, ← h2] at this
        exact Int.lt_of_mul_lt_mul_right this (Int.le_of_lt hq)
    have a2 : u = v ↔ m = n := by
      constructor
      · intro h; subst h; exact Int.eq_of_mul_eq_mul_right (Int.ne_of_gt hp) (h1.symm.trans h2)
      · intro h; subst h; exact Int.eq_of_mul_eq_mul_right (Int.ne_of_gt hq) (h1.trans h2.symm)
    simp only [compare, compareOfLessAndEq, a1, a2]
  congr 1
  rcases (by omega : base ≤ 0 ∨ 0 < base) with hb | hb
  · have e1 := val_at vx base (by omega) hb
    have e2 := val_at vy base (by omega) hb
    exact key _ _ m n (2 ^ (-base).toNat) 1 (Int.pow_pos (by decide)) (by decide) (by rw [Int.mul_one, e1]) (by rw [Int.mul_one, e2])
  · unfold Val at vx vy
    rw [show (-i).toNat = 0 by omega, Int.pow_zero, Int.mul_one, signed_eq] at vx
    rw [show (-j).toNat = 0 by omega, Int.pow_zero, Int.mul_one, signed_eq] at vy
    refine key _ _ m n 1 (2 ^ base.toNat) (by decide) (Int.pow_pos (by decide)) ?_ ?_
    · rw [signed_eq, Int.mul_one, ← vx, show i.toNat = (i - base).toNat + base.toNat by omega, Int.pow_add, Int.mul_assoc]
    · rw [signed_eq, Int.mul_one, ← vy, show j.toNat = (j - base).toNat + base.toNat by omega, Int.pow_add, Int.mul_assoc]
end Go.Proofs.Ytlpooghphoohcaa.F.Fl
/- Whole numbers in floats, nearly. -/
namespace Go.Proofs.Ytlpooghphoohcaa.F
open Go.RowKit Go.Proofs.Ytlpooghphoohcaa.R
set_option linter.unusedVariables false
/-- The float b is the whole number T, but for the rounding of c steps. -/
def Near (b : Nat) (T : Int) (c : Nat) : Prop := ∃ n, Fl.Is b n ∧ (n - T).natAbs ≤ c * 2 ^ 41
theorem near_zero : Near 0 0 0 := ⟨0, Fl.is_zero, by decide⟩
/-- One step: a product is added. -/
theorem near_add {b : Nat} {T : Int} {c : Nat} (h : Near b T c) {x y : Int} (hx : x.natAbs < 2 ^ 53) (hy : y.natAbs < 2 ^ 53) (hxy : (x * y).natAbs < 2 ^ 86) (hT : T.natAbs < 2 ^ 86) (hc : c < 2 ^ 40) :
    ∃ p s, (FloatKind.format .f64).mul (FloatKind.nearest .f64 x) (FloatKind.nearest .f64 y) = some p ∧ (FloatKind.format .f64).add b p = some s ∧ Near s (T + x * y) (c + 1) := by
  obtain ⟨n, hn, he⟩ := h
  have hfx : Fl.Is (FloatKind.f64.nearest x) x := Fl.is_of_int x hx
  have hfy : Fl.Is (FloatKind.f64.nearest y) y := Fl.is_of_int y hy
  obtain ⟨p, m, h1, h2, h3⟩ := Fl.is_product hfx hfy (by omega)
  obtain ⟨s, q, h4, h5, h6⟩ := Fl.is_sum hn h2 (by omega)
  exact ⟨p, s, h1, h4, q, h5, by omega⟩
def fitsB (T : Int) : Bool := decide (T.natAbs ≤ 1000000000)
theorem near_fits {b : Nat} {T : Int} {c : Nat} (h : Near b T c) (hc : c ≤ 400000) :
    (decide (-1000000000 ≤ wrap64 T ∧ wrap64 T ≤ 1000000000) && ((FloatKind.format .f64).order b 4876203697187506176 == some .lt) && ((FloatKind.format .f64).order b 14099575734042281984 == some .gt)) = fitsB T := by
  obtain ⟨n, hn, he⟩ := h
  have k1 : Fl.Is 4876203697187506176 1000000000000000000 := ⟨false, 7812500000000000, 7, by decide, by unfold Fl.Val; decide⟩
  have k2 : Fl.Is 14099575734042281984 (-1000000000000000000) := ⟨true, 7812500000000000, 7, by decide, by unfold Fl.Val; decide⟩
  have e1 : (FloatKind.format .f64).order b 4876203697187506176 = _ := Fl.is_order hn k1
  have e2 : (FloatKind.format .f64).order b 14099575734042281984 = _ := Fl.is_order hn k2
  rw [e1, e2]
  have a1 : ((some (compare n 1000000000000000000) == some Ordering.lt) : Bool) = decide (n < 1000000000000000000) := by
    rcases Int.lt_trichotomy n 1000000000000000000 with h | h | h
    · simp [compare, compareOfLessAndEq, h]
    · subst h; rfl
    · have h1 : ¬ n < 1000000000000000000 := by omega
      have h2 : ¬ n = 1000000000000000000 := by omega
      simp [compare, compareOfLessAndEq, h1, h2]
  have a2 : ((some (compare n (-1000000000000000000)) == some Ordering.gt) : Bool) = decide (-1000000000000000000 < n) := by
    rcases Int.lt_trichotomy n (-1000000000000000000) with h | h | h
    · have h1 : ¬ -1000000000000000000 < n := by omega
      simp [compare, compareOfLessAndEq, h, h1]
    · subst h; rfl
    · have h1 : ¬ n < -1000000000000000000 := by omega
      have h2 : ¬ n = -1000000000000000000 := by omega
      simp [compare, compareOfLessAndEq, h1, h2, h]
  rw [a1, a2]
  unfold fitsB
  have hw : T.natAbs < 9000000000000000000 → wrap64 T = T := fun h => by simp only [wrap64_def]; omega
  have hc' : c * 2 ^ 41 ≤ 400000 * 2 ^ 41 := Nat.mul_le_mul_right _ hc
  rw [Bool.eq_iff_iff]
  simp only [Bool.and_eq_true, decide_eq_true_eq]
  constructor
  · rintro ⟨⟨⟨h1, h2⟩, h3⟩, h4⟩
    have := hw (by omega)
    omega
  · intro h
    have := hw (by omega)
    omega
end Go.Proofs.Ytlpooghphoohcaa.F
