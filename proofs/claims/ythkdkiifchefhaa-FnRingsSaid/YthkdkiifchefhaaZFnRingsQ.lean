/- Facts on what the printed functions answer. -/
import Derived.Test.YthkdkiifchefhaaZPlInv
import Derived.Test.YthkdkiifchefhaaZPlLists
import Derived.Test.YthkdkiifchefhaaZPlMul
import Derived.Test.YthkdkiifchefhaaZPlSums
import Derived.Test.YthkdkiifchefhaaZPFnRingsx
set_option linter.unusedVariables false
set_option linter.unusedSimpArgs false
namespace Go.Proofs.Ythkdkiifchefhaa.FnRingsQ
open Go.RowKit Go.Proofs.Ythkdkiifchefhaa.PFnRings Go.Proofs.Ythkdkiifchefhaa.Plain Go.Proofs.YthkdkiifchefhaaW.PrintWords Go.Proofs.YthkdkiifchefhaaW.PrintLast Go.Proofs.YthkdkiifchefhaaW.PrintMore

/-! 020_in -/
theorem in_eq (a b c : Int) : spec_l01In.f a b c = some (decide (b ≤ a ∧ a ≤ c)) := by
  unfold spec_l01In.f
  by_cases h : a ≥ b
  · rw [if_pos h]; simp [show b ≤ a from h]
  · rw [if_neg h]; simp [show ¬ b ≤ a from h]

/-! 021_within -/
theorem within_eq (a b c : Int) : impl_within.f a b c = some (decide (b ≤ a ∧ a ≤ c)) := by
  unfold impl_within.f
  by_cases h : b ≤ a
  · rw [if_pos h]; simp [h]
  · rw [if_neg h]; simp [h]

/-! 022_modulus -/
theorem modulus_eq (m : Int) : impl_isModulus.f m = some (decide (2 ≤ m ∧ m ≤ 40)) := by
  unfold impl_isModulus.f; rw [within_eq]; rfl

/-! 030_sgcd -/
theorem sgcd_l0 (n : Nat) : ∀ (a b : Int), 0 ≤ a → 0 ≤ b → b.toNat ≤ n → a ≤ 9223372036854775807 → b ≤ 9223372036854775807 →
    Ev (fun k => spec_l01Gcd.l0 k a b) ((Int.gcd a b : Nat) : Int) := by
  induction n with
  | zero =>
    intro a b ha hb hn hm hbm
    obtain rfl : b = 0 := by omega
    refine Ev.step (fun k => by rw [spec_l01Gcd.l0, if_pos rfl]) ?_
    have : mx a (wrap64 (-a)) = ((Int.gcd a 0 : Nat) : Int) := by
      rw [wrap_id (by omega) (by omega)]; unfold mx; simp; split <;> omega
    rw [this]; exact Ev.now _
  | succ n ih =>
    intro a b ha hb hn hm hbm
    by_cases h : b = 0
    · exact (ih a b ha hb (by omega) hm hbm)
    · refine Ev.step (fun k => by rw [spec_l01Gcd.l0, if_neg h]) ?_
      have h0 : 0 < b := by omega
      have hr : Int.tmod a b = a % b := Int.tmod_eq_emod_of_nonneg ha
      have h1 := Int.emod_nonneg a h
      have h2 := Int.emod_lt_of_pos a h0
      have := ih b (Int.tmod a b) hb (by rw [hr]; exact h1) (by rw [hr]; omega) hbm (by rw [hr]; omega)
      rwa [gcd_tmod a b ha h0] at this

theorem sgcd_ev (a b : Int) (ha : 0 ≤ a) (hb : 0 ≤ b) (hm : a ≤ 9223372036854775807) (hbm : b ≤ 9223372036854775807) :
    Ev (fun k => spec_l01Gcd.f k a b) ((Int.gcd a b : Nat) : Int) := sgcd_l0 b.toNat a b ha hb (Nat.le_refl _) hm hbm

/-! 031_igcd -/
theorem size_abs (a : Int) (h : -9223372036854775807 ≤ a) (h1 : a ≤ 9223372036854775807) : mx a (wrap64 (-a)) = (a.natAbs : Int) := by
  rw [wrap_id (by omega) (by omega)]; unfold mx; split <;> omega

theorem igcd_l0 (n : Nat) : ∀ (a b : Int), 0 ≤ a → 0 ≤ b → b.toNat ≤ n →
    Ev (fun k => impl_gcd.l0 k a b) ((Int.gcd a b : Nat) : Int) := by
  induction n with
  | zero =>
    intro a b ha hb hn
    obtain rfl : b = 0 := by omega
    refine Ev.step (fun k => by rw [impl_gcd.l0, if_neg (by omega)]) ?_
    have : a = ((Int.gcd a 0 : Nat) : Int) := by simp; omega
    conv => rhs; rw [← this]
    exact Ev.now _
  | succ n ih =>
    intro a b ha hb hn
    by_cases h : b = 0
    · exact (ih a b ha hb (by omega))
    · have h0 : 0 < b := by omega
      refine Ev.step (fun k => by rw [impl_gcd.l0, if_pos h0, if_neg h]) ?_
      have hr : Int.tmod a b = a % b := Int.tmod_eq_emod_of_nonneg ha
      have h1 := Int.emod_nonneg a h
      have h2 := Int.emod_lt_of_pos a h0
      have := ih b (Int.tmod a b) hb (by rw [hr]; exact h1) (by rw [hr]; omega)
      rwa [gcd_tmod a b ha h0] at this

theorem igcd_ev (a b : Int) (ha : -9223372036854775807 ≤ a) (hb : -9223372036854775807 ≤ b) (ha1 : a ≤ 9223372036854775807) (hb1 : b ≤ 9223372036854775807) :
    Ev (fun k => impl_gcd.f k a b) ((Int.gcd a b : Nat) : Int) := by
  unfold impl_gcd.f impl_size.f
  refine ev_some (ev_some ?_)
  rw [size_abs a ha ha1, size_abs b hb hb1]
  have := igcd_l0 b.natAbs (a.natAbs : Int) (b.natAbs : Int) (by omega) (by omega) (by omega)
  have e : Int.gcd (a.natAbs : Int) (b.natAbs : Int) = Int.gcd a b := by simp [Int.gcd]
  rwa [e] at this

/-! 040_primeto -/
theorem prime_to_ev (a n : Int) (h0 : 1 ≤ a) (h1 : a ≤ n) (hn : n ≤ 9223372036854775807) : Ev (fun k => impl_isPrimeTo.f k a n) (decide ((Int.gcd a n : Int) = 1)) := by
  unfold impl_isPrimeTo.f
  rw [within_eq]
  refine ev_some ?_
  refine ev_ifp (by simp; omega) ?_
  refine Ev.bind (igcd_ev a n (by omega) (by omega) (by omega) hn) ?_
  exact Ev.now _

/-! 041_sunits -/
theorem s_units_l0 (n : Int) (hn : n ≤ 1000000) (d : Nat) : ∀ (acc : List Int) (a : Int), 1 ≤ a → (n + 1 - a).toNat = d → acc.length + d ≤ 1000000 →
    Ev (fun k => spec_l10Residues.l0 k n acc a) (acc ++ unitsFrom a n) := by
  induction d with
  | zero =>
    intro acc a ha hd hl
    refine Ev.step (fun k => by rw [spec_l10Residues.l0, if_neg (by omega)]) ?_
    unfold unitsFrom; rw [upto_nil (by omega)]; simpa using Ev.now acc
  | succ d ih =>
    intro acc a ha hd hl
    refine Ev.step (fun k => by rw [spec_l10Residues.l0, if_pos (by omega), wrap_id (x := a + 1) (by omega) (by omega)]) ?_
    refine Ev.bind (sgcd_ev a n (by omega) (by omega) (by omega) (by omega)) ?_
    have e : unitsFrom a n = if (Int.gcd a n : Int) = 1 then a :: unitsFrom (a + 1) n else unitsFrom (a + 1) n := by
      unfold unitsFrom; rw [upto_cons (by omega), List.filter_cons]; simp
    by_cases h : (Int.gcd a n : Int) = 1
    · refine ev_ifp h (ev_ifp (by omega) ?_)
      have := ih (acc ++ [a]) (a + 1) (by omega) (by omega) (by simp; omega)
      rw [e, if_pos h]; simpa using this
    · refine ev_ifn h ?_
      have := ih acc (a + 1) (by omega) (by omega) (by omega)
      rw [e, if_neg h]; exact this

theorem s_units (n : Int) (hn : n ≤ 1000000) : Ev (fun k => spec_l10Residues.f k n) (unitsL n) := by
  have := s_units_l0 n hn (n + 1 - 1).toNat [] 1 (by omega) rfl (by simp; omega)
  simpa [spec_l10Residues.f, unitsFrom_one] using this

/-! 042_iunits -/
theorem i_units_l0 (n : Int) (hn : n ≤ 1000000) (d : Nat) : ∀ (acc : List Int) (a : Int), 1 ≤ a → (n + 1 - a).toNat = d → acc.length + d ≤ 1000000 →
    Ev (fun k => impl_unitsOf.l0 k n acc a) (acc ++ unitsFrom a n) := by
  induction d with
  | zero =>
    intro acc a ha hd hl
    refine Ev.step (fun k => by rw [impl_unitsOf.l0, if_neg (by omega)]) ?_
    unfold unitsFrom; rw [upto_nil (by omega)]; simpa using Ev.now acc
  | succ d ih =>
    intro acc a ha hd hl
    refine Ev.step (fun k => by rw [impl_unitsOf.l0, if_pos (by omega), wrap_id (x := a + 1) (by omega) (by omega)]) ?_
    refine Ev.bind (prime_to_ev a n (by omega) (by omega) (by omega)) ?_
    have e : unitsFrom a n = if (Int.gcd a n : Int) = 1 then a :: unitsFrom (a + 1) n else unitsFrom (a + 1) n := by
      unfold unitsFrom; rw [upto_cons (by omega), List.filter_cons]; simp
    by_cases h : (Int.gcd a n : Int) = 1
    · refine ev_ifp (by simpa using h) (ev_ifp (by omega) ?_)
      have := ih (acc ++ [a]) (a + 1) (by omega) (by omega) (by simp; omega)
      rw [e, if_pos h]; simpa using this
    · refine ev_ifn (by simpa using h) ?_
      have := ih acc (a + 1) (by omega) (by omega) (by omega)
      rw [e, if_neg h]; exact this

theorem i_units (n : Int) (hn : n ≤ 1000000) : Ev (fun k => impl_unitsOf.f k n) (unitsL n) := by
  have := i_units_l0 n hn (n + 1 - 1).toNat [] 1 (by omega) rfl (by simp; omega)
  simpa [impl_unitsOf.f, unitsFrom_one] using this

/-! 060_fits -/
theorem fits10_l0 (m : Int) (x : List Int) (hb : x.length < 4611686018427387904) : ∀ (d i : Nat), i + d = x.length →
    Ev (fun k => spec_l10Fits.l0 k (i : Int) m x) (smallL (x.drop i)) := by
  intro d
  induction d with
  | zero =>
    intro i hi
    refine Ev.step (fun k => by rw [spec_l10Fits.l0, if_neg (by omega)]) ?_
    rw [List.drop_of_length_le (by omega)]; exact Ev.now _
  | succ d ih =>
    intro i hi
    refine Ev.step (fun k => by rw [spec_l10Fits.l0, if_pos (by omega), if_pos (by omega), in_eq, Option.bind_some, wrap_idx i (by omega)]) ?_
    rw [drop_at x i (by omega)]
    by_cases h : -1000000000 ≤ rd x i ∧ rd x i ≤ 1000000000
    · refine ev_ifp (by simpa using h) ?_
      have := ih (i + 1) (by omega)
      have e : smallL (rd x i :: x.drop (i + 1)) = smallL (x.drop (i + 1)) := by simp [smallL, h]
      rw [e]; exact this
    · refine ev_ifn (by simpa using h) ?_
      have e : smallL (rd x i :: x.drop (i + 1)) = false := by unfold smallL; rw [List.all_cons, decide_eq_false h]; rfl
      rw [e]; exact Ev.now _
theorem fits10_ev (m : Int) (x : List Int) (hb : x.length < 4611686018427387904) : Ev (fun k => spec_l10Fits.f k m x) (smallL x) := by
  have := fits10_l0 m x hb x.length 0 (by omega)
  simpa [spec_l10Fits.f] using this

/-! 061_is10 -/
theorem is10_ev (m : Int) (x : List Int) (hb : x.length < 4611686018427387904) : Ev (fun k => spec_l10Is.f k m x) (ringB m x) := by
  unfold spec_l10Is.f
  rw [in_eq]
  refine ev_some ?_
  by_cases h : 2 ≤ m ∧ m ≤ 40
  · refine ev_ifp (by simpa using h) (Ev.bind (s_units m (by omega)) ?_)
    by_cases hl : x.length = (unitsL m).length
    · refine ev_ifp (by omega) (Ev.bind (fits10_ev m x hb) ?_)
      have e : ringB m x = smallL x := by simp [ringB, h, hl]
      rw [e]; exact Ev.now _
    · refine ev_ifn (by omega) ?_
      have e : ringB m x = false := by simp [ringB, hl]
      rw [e]; exact Ev.now _
  · refine ev_ifn (by simpa using h) ?_
    have e : ringB m x = false := by unfold ringB; rw [decide_eq_false h]; rfl
    rw [e]; exact Ev.now _

/-! 062_totient -/
theorem totient_l0 (n : Int) (hn : n ≤ 1000000) (d : Nat) : ∀ (c a : Int), 1 ≤ a → (n + 1 - a).toNat = d → 0 ≤ c → c + d ≤ 1000000 →
    Ev (fun k => impl_totient.l0 k n c a) (c + (unitsFrom a n).length) := by
  induction d with
  | zero =>
    intro c a ha hd h0 hl
    refine Ev.step (fun k => by rw [impl_totient.l0, if_neg (by omega)]) ?_
    unfold unitsFrom; rw [upto_nil (by omega)]; simpa using Ev.now c
  | succ d ih =>
    intro c a ha hd h0 hl
    refine Ev.step (fun k => by rw [impl_totient.l0, if_pos (by omega), wrap_id (x := a + 1) (by omega) (by omega), wrap_id (x := c + 1) (by omega) (by omega)]) ?_
    refine Ev.bind (igcd_ev a n (by omega) (by omega) (by omega) (by omega)) ?_
    have e : unitsFrom a n = if (Int.gcd a n : Int) = 1 then a :: unitsFrom (a + 1) n else unitsFrom (a + 1) n := by
      unfold unitsFrom; rw [upto_cons (by omega), List.filter_cons]; simp
    by_cases h : (Int.gcd a n : Int) = 1
    · refine ev_ifp h ?_
      have := ih (c + 1) (a + 1) (by omega) (by omega) (by omega) (by omega)
      rw [e, if_pos h]
      have e2 : c + ((a :: unitsFrom (a + 1) n).length : Int) = c + 1 + ((unitsFrom (a + 1) n).length : Int) := by simp; omega
      rw [e2]; exact this
    · refine ev_ifn h ?_
      have := ih c (a + 1) (by omega) (by omega) h0 (by omega)
      rw [e, if_neg h]; exact this
theorem totient_ev (n : Int) (hn : n ≤ 1000000) (h0 : 0 ≤ n) : Ev (fun k => impl_totient.f k n) ((unitsL n).length : Int) := by
  have := totient_l0 n hn (n + 1 - 1).toNat 0 1 (by omega) rfl (by omega) (by omega)
  simpa [impl_totient.f, unitsFrom_one] using this

/-! 063_areSmall -/
theorem small_eq (x : List Int) : impl_areSmall.f x 1000000000 = some (smallL x) := by
  have e : inB 1000000000 = fun x => decide (-1000000000 ≤ x ∧ x ≤ 1000000000) := by
    funext y; unfold inB; rw [show wrap64 (-1000000000) = -1000000000 from wrap_id (by omega) (by omega)]
  unfold impl_areSmall.f smallL; rw [e]

/-! 064_isRing -/
theorem isRing_ev (m : Int) (x : List Int) : Ev (fun k => impl_IsRing.f k m x) (ringB m x) := by
  unfold impl_IsRing.f
  rw [modulus_eq]
  refine ev_some ?_
  by_cases h : 2 ≤ m ∧ m ≤ 40
  · refine ev_ifp (by simpa using h) (Ev.bind (totient_ev m (by omega) (by omega)) ?_)
    by_cases hl : x.length = (unitsL m).length
    · refine ev_ifp (by omega) ?_
      rw [small_eq]
      have e : ringB m x = smallL x := by simp [ringB, h, hl]
      rw [e]; exact Ev.now _
    · refine ev_ifn (by omega) ?_
      have e : ringB m x = false := by simp [ringB, hl]
      rw [e]; exact Ev.now _
  · refine ev_ifn (by simpa using h) ?_
    have e : ringB m x = false := by unfold ringB; rw [decide_eq_false h]; rfl
    rw [e]; exact Ev.now _

/-! 065_small5 -/
theorem small5_eq (x : List Int) : impl_areSmall.f x 100000 = some (small5 x) := by
  have e : inB 100000 = fun x => decide (-100000 ≤ x ∧ x ≤ 100000) := by
    funext y; unfold inB; rw [show wrap64 (-100000) = -100000 from wrap_id (by omega) (by omega)]
  unfold impl_areSmall.f small5; rw [e]

/-! 070_total -/
theorem total_l0 (x : List Int) (hb : x.length < 4611686018427387904) : ∀ (d i : Nat) (s : Int), i + d = x.length →
    Ev (fun k => impl_total.l0 k s x (x.length : Int) (i : Int)) (wsum s (x.drop i)) := by
  intro d
  induction d with
  | zero =>
    intro i s hi
    refine Ev.step (fun k => by rw [impl_total.l0, if_neg (by omega)]) ?_
    rw [List.drop_of_length_le (by omega)]; exact Ev.now _
  | succ d ih =>
    intro i s hi
    refine Ev.step (fun k => by rw [impl_total.l0, if_pos (by omega), if_pos (by omega), if_pos (by omega), wrap_idx i (by omega)]) ?_
    rw [drop_at x i (by omega)]
    exact ih (i + 1) _ (by omega)
theorem total_ev (x : List Int) (hb : x.length < 4611686018427387904) : Ev (fun k => impl_total.f k x) (wsum 0 x) := by
  have := total_l0 x hb x.length 0 0 (by omega)
  simpa [impl_total.f] using this

/-! 071_totalOfRing -/
theorem sTotal_l0 (m : Int) (x : List Int) (hb : x.length < 4611686018427387904) : ∀ (d i : Nat) (s : Int), i + d = x.length →
    Ev (fun k => spec_TotalOfRing.l0 k s (i : Int) m x) (wsum s (x.drop i), 0) := by
  intro d
  induction d with
  | zero =>
    intro i s hi
    refine Ev.step (fun k => by rw [spec_TotalOfRing.l0, if_neg (by omega)]) ?_
    rw [List.drop_of_length_le (by omega)]; exact Ev.now _
  | succ d ih =>
    intro i s hi
    refine Ev.step (fun k => by rw [spec_TotalOfRing.l0, if_pos (by omega), if_pos (by omega), wrap_idx i (by omega)]) ?_
    rw [drop_at x i (by omega)]
    exact ih (i + 1) _ (by omega)
def totalR (m : Int) (x : List Int) : Int × Int := if ringB m x = true then (wsum 0 x, 0) else (0, 1)
theorem sTotal_ev (m : Int) (x : List Int) (hb : x.length < 4611686018427387904) : Ev (fun k => spec_TotalOfRing.f k m x) (totalR m x) := by
  unfold spec_TotalOfRing.f totalR
  refine Ev.bind (is10_ev m x hb) ?_
  by_cases h : ringB m x = true
  · refine ev_ifp h ?_
    rw [if_pos h]
    exact sTotal_l0 m x hb x.length 0 0 (by omega)
  · rw [if_neg h]; exact ev_ifn h (Ev.now _)
theorem iTotal_ev (m : Int) (x : List Int) (hb : x.length < 4611686018427387904) : Ev (fun k => impl_TotalOfRing.f k m x) (totalR m x) := by
  unfold impl_TotalOfRing.f totalR
  refine Ev.bind (isRing_ev m x) ?_
  by_cases h : ringB m x = true
  · refine ev_ifp h ?_
    rw [if_pos h]
    exact Ev.bind (total_ev x hb) (Ev.now _)
  · rw [if_neg h]; exact ev_ifn h (Ev.now _)

/-! 080_sinverse -/
theorem sInv_l0 (n a : Int) (h2 : 2 ≤ n) (h40 : n ≤ 40) (ha : 1 ≤ a) (han : a ≤ n) (d : Nat) : ∀ b : Int, 1 ≤ b → b ≤ n → (n - b).toNat = d → Ev (fun k => spec_l10Inverse.l0 k n a b) ((invFrom n a b).getD 1) := by
  induction d with
  | zero =>
    intro b hb hbn hd
    refine Ev.step (fun k => by rw [spec_l10Inverse.l0, if_neg (by omega)]) ?_
    rw [invFrom_end (by omega)]; exact Ev.now _
  | succ d ih =>
    intro b hb hbn hd
    have hab : 0 ≤ a * b := Int.mul_nonneg (by omega) (by omega)
    have hab2 : a * b ≤ 40 * 40 := Int.mul_le_mul (by omega) (by omega) (by omega) (by omega)
    refine Ev.step (fun k => by rw [spec_l10Inverse.l0, if_pos (by omega), if_neg (by omega), wrap_id (x := a * b) (by omega) (by omega), Int.tmod_eq_emod_of_nonneg hab, wrap_id (x := b + 1) (by omega) (by omega)]) ?_
    by_cases h : a * b % n = 1
    · rw [invFrom_hit (by omega) h]; exact ev_ifp h (Ev.now _)
    · rw [invFrom_miss (by omega) h]; exact ev_ifn h (ih (b + 1) (by omega) (by omega) (by omega))
theorem sInv_ev (n a : Int) (h2 : 2 ≤ n) (h40 : n ≤ 40) (ha : 1 ≤ a) (han : a ≤ n) : Ev (fun k => spec_l10Inverse.f k n a) (invOf n a) :=
  sInv_l0 n a h2 h40 ha han _ 1 (by omega) (by omega) rfl

/-! 081_iinverse -/
theorem iInv_l0 (n a : Int) (h2 : 2 ≤ n) (h40 : n ≤ 40) (ha : 1 ≤ a) (han : a ≤ n) (d : Nat) : ∀ b : Int, 1 ≤ b → (n - b).toNat = d → (invFrom n a b).isSome = true → Ev (fun k => impl_inverse.l0 k n a b) ((invFrom n a b).getD 1) := by
  induction d with
  | zero =>
    intro b hb hd hs
    rw [invFrom_end (by omega)] at hs; cases hs
  | succ d ih =>
    intro b hb hd hs
    have hab : 0 ≤ a * b := Int.mul_nonneg (by omega) (by omega)
    have hab2 : a * b ≤ 40 * 40 := Int.mul_le_mul (by omega) (by omega) (by omega) (by omega)
    refine Ev.step (fun k => by rw [impl_inverse.l0, if_neg (by omega), wrap_id (x := a * b) (by omega) (by omega), Int.tmod_eq_emod_of_nonneg hab, wrap_id (x := b + 1) (by omega) (by omega)]) ?_
    by_cases h : a * b % n = 1
    · rw [invFrom_hit (by omega) h]; exact ev_ifp h (Ev.now _)
    · rw [invFrom_miss (by omega) h] at hs ⊢; exact ev_ifn h (ih (b + 1) (by omega) (by omega) hs)
theorem iInv_ev (n a : Int) (h2 : 2 ≤ n) (h40 : n ≤ 40) (ha : a ∈ unitsL n) : Ev (fun k => impl_inverse.f k n a) (invOf n a) :=
  iInv_l0 n a h2 h40 (unit_range ha).1 (unit_range ha).2.1 _ 1 (by omega) rfl (inv_facts h2 h40 ha).1

/-! 082_place -/
theorem place_l0 (l : List Int) (a : Int) (hb : l.length < 4611686018427387904) : ∀ d i : Nat, i + d = l.length → a ∈ l.drop i → Ev (fun k => spec_l10Place.l0 k l a (i : Int)) (((i + (l.drop i).idxOf a : Nat) : Int)) := by
  intro d
  induction d with
  | zero =>
    intro i hi hm
    rw [List.drop_of_length_le (by omega)] at hm; cases hm
  | succ d ih =>
    intro i hi hm
    have hlt : i < l.length := by omega
    refine Ev.step (fun k => by rw [spec_l10Place.l0, if_pos (by omega), if_pos (by omega), wrap_idx i (by omega)]) ?_
    rw [idxOf_drop hlt]
    by_cases h : l[i] = a
    · rw [if_pos h]
      exact ev_ifp (by rw [rd_nat _ _ hlt]; exact h) (Ev.now _)
    · rw [if_neg h]
      have hm2 : a ∈ l.drop (i + 1) := by
        rw [List.drop_eq_getElem_cons hlt] at hm
        rcases List.mem_cons.1 hm with e | e
        · exact absurd e.symm h
        · exact e
      refine ev_ifn (by rw [rd_nat _ _ hlt]; exact h) ?_
      have := ih (i + 1) (by omega) hm2
      rwa [show i + 1 + (l.drop (i + 1)).idxOf a = i + ((l.drop (i + 1)).idxOf a + 1) from by omega] at this
theorem place_ev (l : List Int) (a : Int) (hb : l.length < 4611686018427387904) (hm : a ∈ l) : Ev (fun k => spec_l10Place.f k l a) ((l.idxOf a : Nat) : Int) := by
  have := place_l0 l a hb l.length 0 (by omega) (by simpa using hm)
  simpa [spec_l10Place.f] using this

/-! 083_zero10 -/
theorem zero10_ev (n : Int) (hn : n ≤ 1000000) : Ev (fun k => spec_l10Zero.f k n) (n, List.replicate (unitsL n).length 0) := by
  unfold spec_l10Zero.f
  refine Ev.bind (s_units n hn) ?_
  have := unitsL_length n
  refine ev_ifp (by omega) (ev_ifp (by omega) ?_)
  simpa using Ev.now (n, List.replicate (unitsL n).length (0 : Int))

/-! 084_turned -/
theorem turned_l0 (n : Int) (h2 : 2 ≤ n) (h40 : n ≤ 40) (pf : Int → Option Int) (g : Int → Int) (hg : ∀ b ∈ unitsL n, pf (invOf n b) = some (g b)) :
    ∀ (d i : Nat) (acc : List Int), i + d = (unitsL n).length → acc.length = i →
    Ev (fun k => impl_turnedRing.l0 pf k n (unitsL n) ((unitsL n).length : Int) (i : Int) n acc) (n, acc ++ ((unitsL n).drop i).map g) := by
  have hlen := unitsL_length n
  intro d
  induction d with
  | zero =>
    intro i acc hi ha
    refine Ev.step (fun k => by rw [impl_turnedRing.l0, if_neg (by omega)]) ?_
    rw [List.drop_of_length_le (by omega)]; simpa using Ev.now (n, acc)
  | succ d ih =>
    intro i acc hi ha
    have hlt : i < (unitsL n).length := by omega
    have hm : rd (unitsL n) i ∈ unitsL n := by rw [rd_nat _ _ hlt]; exact List.getElem_mem hlt
    refine Ev.step (fun k => by rw [impl_turnedRing.l0, if_pos (by omega), if_pos (by omega), if_pos (by omega), wrap_idx i (by omega)]) ?_
    refine Ev.bind (iInv_ev n _ h2 h40 hm) ?_
    rw [hg _ hm]
    refine ev_some (ev_ifp (by omega) ?_)
    have := ih (i + 1) (acc ++ [g (rd (unitsL n) i)]) (by omega) (by simp; omega)
    rw [drop_at _ i hlt]
    simpa using this
theorem turned_ev (n : Int) (h2 : 2 ≤ n) (h40 : n ≤ 40) (pf : Int → Option Int) (g : Int → Int) (hg : ∀ b ∈ unitsL n, pf (invOf n b) = some (g b)) :
    Ev (fun k => impl_turnedRing.f pf k n) (n, (unitsL n).map g) := by
  unfold impl_turnedRing.f
  refine Ev.bind (i_units n (by omega)) ?_
  have := turned_l0 n h2 h40 pf g hg (unitsL n).length 0 [] (by omega) rfl
  simpa using this

/-! 087_turn -/
theorem idxL_mem (a : Int) (l : List Int) : ∀ i : Nat, a ∈ l → idxL a i l = ((i + l.idxOf a : Nat) : Int) := by
  induction l with
  | nil => intro i h; cases h
  | cons x l ih =>
    intro i h
    unfold idxL
    rw [List.idxOf_cons]
    by_cases e : a = x
    · rw [if_pos e, e]; simp
    · rw [if_neg e, beq_false_of_ne (fun h => e h.symm)]
      rcases List.mem_cons.1 h with h | h
      · exact absurd h e
      · rw [ih (i + 1) h]; simp only [cond_false]; omega
def turnG (n : Int) (x : List Int) (b : Int) : Int := rd x ((unitsL n).idxOf (invOf n b) : Nat)
theorem turnPart_some {n : Int} {x : List Int} (h2 : 2 ≤ n) (h40 : n ≤ 40) (hx : x.length = (unitsL n).length) (b : Int) (hb : b ∈ unitsL n) : turnPart x (unitsL n) (invOf n b) = some (turnG n x b) := by
  have hm := (inv_facts h2 h40 hb).2.2.1
  have hlt := List.idxOf_lt_length_of_mem hm
  unfold turnPart
  rw [idxL_mem _ _ 0 hm, Nat.zero_add, if_pos (by omega), if_pos (by omega)]
  rfl
theorem sTurn_l0 (n : Int) (x : List Int) (h2 : 2 ≤ n) (h40 : n ≤ 40) (hx : x.length = (unitsL n).length) (m0 : Int) : ∀ (d i : Nat) (o : List Int), i + d = (unitsL n).length → o.length = (unitsL n).length → o.take i = ((unitsL n).take i).map (turnG n x) →
    Ev (fun k => spec_TurnRing.l0 k (unitsL n) (i : Int) n x m0 o) (m0, (unitsL n).map (turnG n x), 0) := by
  have hlen := unitsL_length n
  intro d
  induction d with
  | zero =>
    intro i o hi ho ht
    refine Ev.step (fun k => by rw [spec_TurnRing.l0, if_neg (by omega)]) ?_
    rw [List.take_of_length_le (by omega), List.take_of_length_le (by omega)] at ht
    rw [ht]; exact Ev.now _
  | succ d ih =>
    intro i o hi ho ht
    have hlt : i < (unitsL n).length := by omega
    have hm : rd (unitsL n) i ∈ unitsL n := by rw [rd_nat _ _ hlt]; exact List.getElem_mem hlt
    obtain ⟨p1, p2, p3⟩ := invPos_facts h2 h40 i hlt
    refine Ev.step (fun k => by rw [spec_TurnRing.l0, if_pos (by omega), if_pos (by omega), wrap_idx i (by omega)]) ?_
    refine Ev.bind (sInv_ev n _ h2 h40 (unit_range hm).1 (unit_range hm).2.1) ?_
    refine Ev.bind (place_ev _ _ (by omega) (inv_facts h2 h40 hm).2.2.1) ?_
    have e : ((unitsL n).idxOf (invOf n (rd (unitsL n) (i : Int)))) = invPos n i := rfl
    rw [e]
    refine ev_ifp (by omega) (ev_ifp (by omega) (ev_ifp (by omega) ?_))
    refine ih (i + 1) _ (by omega) (by simpa using ho) ?_
    rw [Int.toNat_natCast]
    have hs : i < (o.set i (rd x ((invPos n i : Nat) : Int))).length := by simp; omega
    rw [List.take_succ_eq_append_getElem hs, List.take_succ_eq_append_getElem hlt, List.getElem_set_self, List.take_set, List.set_eq_of_length_le (by rw [List.length_take]; omega), ht, List.map_append]
    congr 1
    rw [← rd_nat _ _ hlt]; rfl
def turnR (n : Int) (x : List Int) : Int × List Int × Int := if ringB n x = true then (n, (unitsL n).map (turnG n x), 0) else (0, [], 1)
theorem sTurn_ev (n : Int) (x : List Int) (hb : x.length < 4611686018427387904) : Ev (fun k => spec_TurnRing.f k n x) (turnR n x) := by
  unfold spec_TurnRing.f turnR
  refine Ev.bind (is10_ev n x hb) ?_
  by_cases h : ringB n x = true
  · obtain ⟨h2, h40, hx, _⟩ := ringB_len h
    rw [if_pos h]
    refine ev_ifp h (Ev.bind (zero10_ev n (by omega)) (Ev.bind (s_units n (by omega)) ?_))
    exact sTurn_l0 n x h2 h40 hx n (unitsL n).length 0 _ (by omega) (by simp) (by simp)
  · rw [if_neg h]; exact ev_ifn h (Ev.now _)
theorem iTurn_ev (n : Int) (x : List Int) : Ev (fun k => impl_TurnRing.f k n x) (turnR n x) := by
  unfold impl_TurnRing.f turnR
  refine Ev.bind (isRing_ev n x) ?_
  by_cases h : ringB n x = true
  · obtain ⟨h2, h40, hx, _⟩ := ringB_len h
    rw [if_pos h]
    refine ev_ifp h (Ev.bind (i_units n (by omega)) (Ev.bind (turned_ev n h2 h40 _ (turnG n x) (fun b hb => turnPart_some h2 h40 hx b hb)) ?_))
    exact Ev.now _
  · rw [if_neg h]; exact ev_ifn h (Ev.now _)
theorem turnR_len (n : Int) (x : List Int) : (turnR n x).2.1.length ≤ 1000 := by
  unfold turnR
  by_cases h : ringB n x = true
  · rw [if_pos h]
    obtain ⟨h2, h40, hx, _⟩ := ringB_len h
    have := unitsL_length n
    rw [List.length_map]; omega
  · rw [if_neg h]; simp

/-! 088_index -/
theorem sIndex_l0 (l : List Int) (a : Int) (hb : l.length < 4611686018427387904) : ∀ d i : Nat, i + d = l.length → a ∈ l.drop i → Ev (fun k => slices_Index_int64_int64.l0 k l a (l.length : Int) (i : Int)) (((i + (l.drop i).idxOf a : Nat) : Int)) := by
  intro d
  induction d with
  | zero =>
    intro i hi hm
    rw [List.drop_of_length_le (by omega)] at hm; cases hm
  | succ d ih =>
    intro i hi hm
    have hlt : i < l.length := by omega
    refine Ev.step (fun k => by rw [slices_Index_int64_int64.l0, if_pos (by omega), if_pos (by omega), if_pos (by omega), wrap_idx i (by omega)]) ?_
    rw [idxOf_drop hlt]
    by_cases h : l[i] = a
    · rw [if_pos h]
      exact ev_ifp (by rw [rd_nat _ _ hlt]; exact h.symm) (Ev.now _)
    · rw [if_neg h]
      have hm2 : a ∈ l.drop (i + 1) := by
        rw [List.drop_eq_getElem_cons hlt] at hm
        rcases List.mem_cons.1 hm with e | e
        · exact absurd e.symm h
        · exact e
      refine ev_ifn (by rw [rd_nat _ _ hlt]; exact fun z => h z.symm) ?_
      have := ih (i + 1) (by omega) hm2
      rwa [show i + 1 + (l.drop (i + 1)).idxOf a = i + ((l.drop (i + 1)).idxOf a + 1) from by omega] at this
theorem sIndex_ev (l : List Int) (a : Int) (hb : l.length < 4611686018427387904) (hm : a ∈ l) : Ev (fun k => slices_Index_int64_int64.f k l a) ((l.idxOf a : Nat) : Int) := by
  have := sIndex_l0 l a hb l.length 0 (by omega) (by simpa using hm)
  simpa [slices_Index_int64_int64.f] using this

/-! 200_like10 -/
def likeC (m : Int) (x : List Int) (n : Int) (y : List Int) : Int := if ringB m x = true ∧ ringB n y = true then (if m = n then 0 else 2) else 1
theorem like10_ev (m : Int) (x : List Int) (n : Int) (y : List Int) (hx : x.length < 4611686018427387904) (hy : y.length < 4611686018427387904) : Ev (fun k => spec_l10Like.f k m x n y) (likeC m x n y) := by
  unfold spec_l10Like.f likeC
  refine Ev.bind (is10_ev m x hx) ?_
  by_cases h : ringB m x = true
  · refine ev_ifp h (Ev.bind (is10_ev n y hy) ?_)
    by_cases h2 : ringB n y = true
    · rw [if_pos ⟨h, h2⟩, h2]
      refine Ev.step (fun k => by rw [spec_l10Like.j0, if_neg (by simp)]) ?_
      by_cases e : m = n
      · simp only [if_pos e]; exact Ev.now _
      · simp only [if_neg e]; exact Ev.now _
    · rw [if_neg (fun z => h2 z.2), Bool.eq_false_iff.mpr h2]
      exact Ev.step (fun k => by rw [spec_l10Like.j0, if_pos (by simp)]) (Ev.now _)
  · rw [if_neg (fun z => h z.1)]
    refine ev_ifn h ?_
    exact Ev.step (fun k => by rw [spec_l10Like.j0, if_pos rfl]) (Ev.now _)
theorem likeC_zero {m : Int} {x : List Int} {n : Int} {y : List Int} (h : likeC m x n y = 0) : ringB m x = true ∧ ringB n y = true ∧ m = n := by
  unfold likeC at h
  by_cases e : ringB m x = true ∧ ringB n y = true
  · rw [if_pos e] at h
    by_cases e2 : m = n
    · exact ⟨e.1, e.2, e2⟩
    · rw [if_neg e2] at h; cases h
  · rw [if_neg e] at h; cases h

/-! 201_ringCode -/
theorem ringCode_ev (m : Int) (x : List Int) (n : Int) (y : List Int) : Ev (fun k => impl_ringCode.f k m x n y) (likeC m x n y) := by
  unfold impl_ringCode.f likeC
  refine Ev.bind (isRing_ev m x) ?_
  by_cases h : ringB m x = true
  · refine ev_ifp h (Ev.bind (isRing_ev n y) ?_)
    by_cases h2 : ringB n y = true
    · rw [if_pos ⟨h, h2⟩, h2]
      refine Ev.step (fun k => by rw [impl_ringCode.j0, if_neg (by simp)]) ?_
      by_cases e : m = n
      · simp only [if_pos e]; exact Ev.now _
      · simp only [if_neg e]; exact Ev.now _
    · rw [if_neg (fun z => h2 z.2), Bool.eq_false_iff.mpr h2]
      exact Ev.step (fun k => by rw [impl_ringCode.j0, if_pos (by simp)]) (Ev.now _)
  · rw [if_neg (fun z => h z.1)]
    refine ev_ifn h ?_
    exact Ev.step (fun k => by rw [impl_ringCode.j0, if_pos rfl]) (Ev.now _)

/-! 202_told10 -/
def toldR (n : Int) (l : List Int) : Int × List Int × Int := if smallL l = true then (n, l, 0) else (0, [], 3)
theorem toldR_len (n : Int) (l : List Int) : (toldR n l).2.1.length ≤ l.length := by
  unfold toldR; split <;> simp
theorem told10_ev (n : Int) (l : List Int) (hl : l.length < 4611686018427387904) : Ev (fun k => spec_l10Told.f k n l) (toldR n l) := by
  unfold spec_l10Told.f toldR
  refine Ev.bind (fits10_ev n l hl) ?_
  by_cases h : smallL l = true
  · simp only [if_pos h]; exact Ev.now _
  · simp only [if_neg h]; exact Ev.now _

/-! 203_ringOf -/
theorem ringOf_eq (n : Int) (l : List Int) : impl_ringOf.f n l = some (toldR n l) := by
  unfold impl_ringOf.f toldR
  rw [small_eq, Option.bind_some]
  by_cases h : smallL l = true
  · rw [if_pos h, if_pos h]
  · rw [if_neg h, if_neg h]

/-! 210_addRings -/
def addL (c : Int) (x y : List Int) : List Int := List.zipWith (fun a b => wrap64 (a + wrap64 (c * b))) x y
theorem addL_at (c : Int) (x y : List Int) (i : Nat) (hx : i < x.length) (hy : i < y.length) : (addL c x y)[i]? = some (wrap64 (rd x i + wrap64 (c * rd y i))) := by
  unfold addL
  rw [List.getElem?_zipWith, List.getElem?_eq_getElem hx, List.getElem?_eq_getElem hy, rd_nat _ _ hx, rd_nat _ _ hy]
theorem take_set_next {o t : List Int} {i : Nat} {v : Int} (hi : i < o.length) (ht : o.take i = t.take i) (hv : t[i]? = some v) : (o.set i v).take (i + 1) = t.take (i + 1) := by
  have hs : i < (o.set i v).length := by simpa using hi
  obtain ⟨hti, htv⟩ := List.getElem?_eq_some_iff.1 hv
  rw [List.take_succ_eq_append_getElem hs, List.take_succ_eq_append_getElem hti, List.getElem_set_self, List.take_set, List.set_eq_of_length_le (by rw [List.length_take]; omega), ht, htv]
theorem sAdd_l0 (c m : Int) (x : List Int) (n : Int) (y : List Int) (hb : x.length < 4611686018427387904) (hy : y.length = x.length) (q : Int) : ∀ (d i : Nat) (o : List Int), i + d = x.length → o.length = x.length → o.take i = (addL c x y).take i →
    Ev (fun k => spec_AddRings.l0 k c (i : Int) m x n y q o) (toldR q (addL c x y)) := by
  have hl : (addL c x y).length = x.length := by unfold addL; simp; omega
  intro d
  induction d with
  | zero =>
    intro i o hi ho ht
    refine Ev.step (fun k => by rw [spec_AddRings.l0, if_neg (by omega)]) ?_
    rw [List.take_of_length_le (by omega), List.take_of_length_le (by omega)] at ht
    rw [ht]
    exact Ev.bind (told10_ev q _ (by omega)) (Ev.now _)
  | succ d ih =>
    intro i o hi ho ht
    refine Ev.step (fun k => by rw [spec_AddRings.l0, if_pos (by omega), if_pos (by omega), if_pos (by omega), if_pos (by omega), wrap_idx i (by omega), Int.toNat_natCast]) ?_
    refine ih (i + 1) _ (by omega) (by simpa using ho) ?_
    exact take_set_next (by omega) ht (addL_at c x y i (by omega) (by omega))
theorem iAdd_l0 (c : Int) (x y : List Int) (hb : x.length < 4611686018427387904) (hy : y.length = x.length) (q : Int) (z : List Int) : ∀ (d i : Nat) (o : List Int), i + d = x.length → o.length = x.length → o.take i = (addL c x y).take i → (∀ j, i ≤ j → j < x.length → o[j]? = x[j]?) →
    Ev (fun k => impl_AddRings.l0 k c o y (y.length : Int) (i : Int) q z) (toldR q (addL c x y)) := by
  have hl : (addL c x y).length = x.length := by unfold addL; simp; omega
  intro d
  induction d with
  | zero =>
    intro i o hi ho ht _
    refine Ev.step (fun k => by rw [impl_AddRings.l0, if_neg (by omega)]) ?_
    rw [List.take_of_length_le (by omega), List.take_of_length_le (by omega)] at ht
    rw [ht, ringOf_eq]
    exact Ev.now _
  | succ d ih =>
    intro i o hi ho ht hs
    refine Ev.step (fun k => by rw [impl_AddRings.l0, if_pos (by omega), if_pos (by omega), if_pos (by omega), if_pos (by omega), wrap_idx i (by omega), Int.toNat_natCast]) ?_
    have e : rd o (i : Int) = rd x (i : Int) := by
      have := hs i (by omega) (by omega)
      rw [List.getElem?_eq_getElem (by omega), List.getElem?_eq_getElem (by omega)] at this
      rw [rd_nat _ _ (by omega), rd_nat _ _ (by omega)]
      exact Option.some.inj this
    rw [e]
    refine ih (i + 1) _ (by omega) (by simpa using ho) ?_ ?_
    · exact take_set_next (by omega) ht (addL_at c x y i (by omega) (by omega))
    · intro j hj hjx
      rw [List.getElem?_set_ne (by omega)]
      exact hs j (by omega) hjx
def addR (m : Int) (x : List Int) (n : Int) (y : List Int) (c : Int) : Int × List Int × Int :=
  if likeC m x n y = 0 then (if -1000 ≤ c ∧ c ≤ 1000 then toldR m (addL c x y) else (0, [], 2)) else (0, [], likeC m x n y)
theorem sAdd_ev (m : Int) (x : List Int) (n : Int) (y : List Int) (c : Int) (hx : x.length < 4611686018427387904) (hy : y.length < 4611686018427387904) : Ev (fun k => spec_AddRings.f k m x n y c) (addR m x n y c) := by
  unfold spec_AddRings.f addR
  refine Ev.bind (like10_ev m x n y hx hy) ?_
  by_cases h : likeC m x n y = 0
  · rw [if_pos h]
    refine ev_ifp h ?_
    rw [in_eq, h]
    refine ev_some ?_
    obtain ⟨h1, h2, rfl⟩ := likeC_zero h
    obtain ⟨g2, g40, gx, _⟩ := ringB_len h1
    obtain ⟨_, _, gy, _⟩ := ringB_len h2
    by_cases hc : -1000 ≤ c ∧ c ≤ 1000
    · rw [if_pos hc]
      refine Ev.step (fun k => by rw [spec_AddRings.j0, if_neg (by simpa using hc)]) ?_
      refine Ev.step (fun k => by rw [spec_AddRings.j1, if_pos rfl]) ?_
      refine Ev.bind (zero10_ev m (by omega)) ?_
      exact sAdd_l0 c m x m y hx (by omega) m x.length 0 _ (by omega) (by simp; omega) (by simp)
    · rw [if_neg hc]
      refine Ev.step (fun k => by rw [spec_AddRings.j0, if_pos (by rw [decide_eq_false hc]; rfl)]) ?_
      exact Ev.step (fun k => by rw [spec_AddRings.j1, if_neg (by omega)]) (Ev.now _)
  · rw [if_neg h]
    refine ev_ifn h ?_
    refine Ev.step (fun k => by rw [spec_AddRings.j0, if_neg (by simp)]) ?_
    exact Ev.step (fun k => by rw [spec_AddRings.j1, if_neg h]) (Ev.now _)
theorem iAdd_ev (m : Int) (x : List Int) (n : Int) (y : List Int) (c : Int) : Ev (fun k => impl_AddRings.f k m x n y c) (addR m x n y c) := by
  unfold impl_AddRings.f addR
  refine Ev.bind (ringCode_ev m x n y) ?_
  by_cases h : likeC m x n y = 0
  · rw [if_pos h]
    refine ev_ifp h ?_
    rw [within_eq]
    refine ev_some ?_
    obtain ⟨h1, h2, rfl⟩ := likeC_zero h
    obtain ⟨g2, g40, gx, _⟩ := ringB_len h1
    obtain ⟨_, _, gy, _⟩ := ringB_len h2
    have := unitsL_length m
    by_cases hc : -1000 ≤ c ∧ c ≤ 1000
    · rw [if_pos hc]
      refine ev_ifp (by simpa using hc) ?_
      unfold slices_Clone_int64_int64.f
      rw [if_pos (by omega)]
      refine ev_some ?_
      exact iAdd_l0 c x y (by omega) (by omega) m x x.length 0 _ (by omega) rfl (by simp) (fun _ _ _ => rfl)
    · rw [if_neg hc]
      exact ev_ifn (by simpa using hc) (Ev.now _)
  · rw [if_neg h]
    exact ev_ifn h (Ev.now _)
theorem addR_len (m : Int) (x : List Int) (n : Int) (y : List Int) (c : Int) (hx : x.length ≤ 1048576) : (addR m x n y c).2.1.length ≤ 1048576 := by
  unfold addR
  split
  · split
    · refine Nat.le_trans (toldR_len _ _) ?_
      unfold addL; simp; omega
    · simp
  · simp

/-! 211_times10 -/
theorem sTimes_l1 (m : Int) (x : List Int) (n : Int) (y : List Int) (h2 : 2 ≤ m) (h40 : m ≤ 40) (hx : x.length = (unitsL m).length) (hy : y.length = (unitsL m).length) (q : Int) (i : Nat) (hi : i < (unitsL m).length) (r : Int × List Int) :
    ∀ (d j : Nat) (o : List Int), j + d = (unitsL m).length → o.length = (unitsL m).length →
    Ev (fun k => spec_l10Times.l0 k (unitsL m) ((i + 1 : Nat) : Int) m x n y q (mulIn m x y i j d o)) r → Ev (fun k => spec_l10Times.l1 k (unitsL m) (i : Int) (j : Int) m x n y q o) r := by
  have hlen := unitsL_length m
  intro d
  induction d with
  | zero =>
    intro j o hj ho h
    exact Ev.step (fun k => by rw [spec_l10Times.l1, if_neg (by omega), wrap_idx i (by omega)]; rfl) h
  | succ d ih =>
    intro j o hj ho h
    have hjl : j < (unitsL m).length := by omega
    have ha := unit_at hi
    have hb := unit_at hjl
    obtain ⟨p0, p1⟩ := unit_mul h40 ha hb
    have hm := mul_unit h2 h40 ha hb
    have hp : mulPos m i j < (unitsL m).length := List.idxOf_lt_length_of_mem hm
    refine Ev.step (fun k => by rw [spec_l10Times.l1, if_pos (by omega), if_pos (by omega), if_pos (by omega), if_pos (by omega), if_neg (by omega), wrap_idx j (by omega), wrap_id (x := rd (unitsL m) i * rd (unitsL m) j) (by omega) (by omega), Int.tmod_eq_emod_of_nonneg p0]) ?_
    refine Ev.bind (place_ev _ _ (by omega) hm) ?_
    have e : ((unitsL m).idxOf (rd (unitsL m) (i : Int) * rd (unitsL m) (j : Int) % m)) = mulPos m i j := rfl
    rw [e]
    refine ev_ifp (by omega) (ev_ifp (by omega) (ev_ifp (by omega) (ev_ifp (by omega) ?_)))
    rw [Int.toNat_natCast]
    rw [mulIn_succ] at h
    exact ih (j + 1) _ (by omega) (by rw [List.length_set]; exact ho) h
theorem sTimes_l0 (m : Int) (x : List Int) (n : Int) (y : List Int) (h2 : 2 ≤ m) (h40 : m ≤ 40) (hx : x.length = (unitsL m).length) (hy : y.length = (unitsL m).length) (q : Int) :
    ∀ (d i : Nat) (o : List Int), i + d = (unitsL m).length → o.length = (unitsL m).length → Ev (fun k => spec_l10Times.l0 k (unitsL m) (i : Int) m x n y q o) (q, mulOut m x y i d o) := by
  have hlen := unitsL_length m
  intro d
  induction d with
  | zero =>
    intro i o hi ho
    exact Ev.step (fun k => by rw [spec_l10Times.l0, if_neg (by omega)]; rfl) (Ev.now _)
  | succ d ih =>
    intro i o hi ho
    refine Ev.step (fun k => by rw [spec_l10Times.l0, if_pos (by omega)]) ?_
    rw [mulOut_succ]
    exact sTimes_l1 m x n y h2 h40 hx hy q i (by omega) _ (unitsL m).length 0 o (by omega) ho (ih (i + 1) _ (by omega) (by rw [mulIn_length]; exact ho))
theorem sTimes_ev (m : Int) (x : List Int) (n : Int) (y : List Int) (h2 : 2 ≤ m) (h40 : m ≤ 40) (hx : x.length = (unitsL m).length) (hy : y.length = (unitsL m).length) : Ev (fun k => spec_l10Times.f k m x n y) (m, mulL m x y) := by
  unfold spec_l10Times.f
  exact Ev.bind (zero10_ev m (by omega)) (Ev.bind (s_units m (by omega)) (sTimes_l0 m x n y h2 h40 hx hy m (unitsL m).length 0 _ (by omega) (by simp)))

/-! 212_multiply10 -/
theorem iMul_l1 (m : Int) (x : List Int) (n : Int) (y : List Int) (h2 : 2 ≤ m) (h40 : m ≤ 40) (hx : x.length = (unitsL m).length) (hy : y.length = (unitsL m).length) (i : Nat) (hi : i < (unitsL m).length) (r : Int × List Int × Int) :
    ∀ (d j : Nat) (o : List Int), j + d = (unitsL m).length → o.length = (unitsL m).length →
    Ev (fun k => impl_MultiplyRings.l0 k (unitsL m) (mulIn m x y i j d o) (unitsL m) ((unitsL m).length : Int) ((i + 1 : Nat) : Int) m x n y) r →
    Ev (fun k => impl_MultiplyRings.l1 k (unitsL m) o (i : Int) (rd (unitsL m) i) (unitsL m) ((unitsL m).length : Int) (i : Int) (unitsL m) ((unitsL m).length : Int) (j : Int) m x n y) r := by
  have hlen := unitsL_length m
  intro d
  induction d with
  | zero =>
    intro j o hj ho h
    exact Ev.step (fun k => by rw [impl_MultiplyRings.l1, if_neg (by omega), wrap_idx i (by omega)]; rfl) h
  | succ d ih =>
    intro j o hj ho h
    have hjl : j < (unitsL m).length := by omega
    have ha := unit_at hi
    have hb := unit_at hjl
    obtain ⟨p0, p1⟩ := unit_mul h40 ha hb
    have hm := mul_unit h2 h40 ha hb
    have hp : mulPos m i j < (unitsL m).length := List.idxOf_lt_length_of_mem hm
    refine Ev.step (fun k => by rw [impl_MultiplyRings.l1, if_pos (by omega), if_pos (by omega), if_pos (by omega), if_neg (by omega), wrap_idx j (by omega), wrap_id (x := rd (unitsL m) i * rd (unitsL m) j) (by omega) (by omega), Int.tmod_eq_emod_of_nonneg p0]) ?_
    refine Ev.bind (sIndex_ev _ _ (by omega) hm) ?_
    have e : ((unitsL m).idxOf (rd (unitsL m) (i : Int) * rd (unitsL m) (j : Int) % m)) = mulPos m i j := rfl
    rw [e]
    refine ev_ifp (by omega) (ev_ifp (by omega) (ev_ifp (by omega) (ev_ifp (by omega) (ev_ifp (by omega) ?_))))
    rw [Int.toNat_natCast]
    rw [mulIn_succ] at h
    exact ih (j + 1) _ (by omega) (by rw [List.length_set]; exact ho) h
theorem iMul_l0 (m : Int) (x : List Int) (n : Int) (y : List Int) (h2 : 2 ≤ m) (h40 : m ≤ 40) (hx : x.length = (unitsL m).length) (hy : y.length = (unitsL m).length) :
    ∀ (d i : Nat) (o : List Int), i + d = (unitsL m).length → o.length = (unitsL m).length → Ev (fun k => impl_MultiplyRings.l0 k (unitsL m) o (unitsL m) ((unitsL m).length : Int) (i : Int) m x n y) (toldR m (mulOut m x y i d o)) := by
  have hlen := unitsL_length m
  intro d
  induction d with
  | zero =>
    intro i o hi ho
    refine Ev.step (fun k => by rw [impl_MultiplyRings.l0, if_neg (by omega), ringOf_eq]) ?_
    exact Ev.now _
  | succ d ih =>
    intro i o hi ho
    refine Ev.step (fun k => by rw [impl_MultiplyRings.l0, if_pos (by omega), if_pos (by omega), if_pos (by omega)]) ?_
    rw [mulOut_succ]
    exact iMul_l1 m x n y h2 h40 hx hy i (by omega) _ (unitsL m).length 0 o (by omega) ho (ih (i + 1) _ (by omega) (by rw [mulIn_length]; exact ho))
/-- What the reference's check of the sizes comes to. -/
theorem sMul_chk (m : Int) (x : List Int) (n : Int) (y : List Int) (hb : x.length < 4611686018427387904) (hy : y.length = x.length) (r : Int × List Int × Int)
    (h0 : Ev (fun k => (spec_l10Times.f k m x n y).bind fun bt => (spec_l10Told.f k bt.1 bt.2).bind fun b2 => some (b2.1, b2.2.1, b2.2.2)) r) :
    ∀ (d i : Nat), i + d = x.length → Ev (fun k => spec_MultiplyRings.l0 k 0 (i : Int) m x n y) (if small5 (x.drop i) = true ∧ small5 (y.drop i) = true then r else (0, [], 2)) := by
  intro d
  induction d with
  | zero =>
    intro i hi
    rw [List.drop_of_length_le (by omega), List.drop_of_length_le (by omega), if_pos ⟨rfl, rfl⟩]
    refine Ev.step (fun k => by rw [spec_MultiplyRings.l0, if_neg (by omega)]) ?_
    refine Ev.step (fun k => by rw [spec_MultiplyRings.j1, if_neg (by simp), if_pos rfl]) ?_
    exact h0
  | succ d ih =>
    intro i hi
    have bad : Ev (fun k => spec_MultiplyRings.l0 k 2 ((i + 1 : Nat) : Int) m x n y) (0, [], 2) := by
      by_cases e : ((i + 1 : Nat) : Int) < (x.length : Int)
      · refine Ev.step (fun k => by rw [spec_MultiplyRings.l0, if_pos e]) ?_
        exact Ev.step (fun k => by rw [spec_MultiplyRings.j1, if_neg (by simp), if_neg (by omega)]) (Ev.now _)
      · refine Ev.step (fun k => by rw [spec_MultiplyRings.l0, if_neg e]) ?_
        exact Ev.step (fun k => by rw [spec_MultiplyRings.j1, if_neg (by simp), if_neg (by omega)]) (Ev.now _)
    refine Ev.step (fun k => by rw [spec_MultiplyRings.l0, if_pos (by omega)]) ?_
    refine Ev.step (fun k => by rw [spec_MultiplyRings.j1, if_pos (by simp), if_pos (by omega), if_pos (by omega), in_eq, Option.bind_some, wrap_idx i (by omega)]) ?_
    rw [drop_at x i (by omega), drop_at y i (by omega)]
    by_cases hx : -100000 ≤ rd x i ∧ rd x i ≤ 100000
    · refine ev_ifp (by simpa using hx) (ev_ifp (by omega) ?_)
      rw [in_eq]
      refine ev_some ?_
      by_cases hy2 : -100000 ≤ rd y i ∧ rd y i ≤ 100000
      · refine ev_ifp (by simpa using hy2) ?_
        have e1 : small5 (rd x i :: x.drop (i + 1)) = small5 (x.drop (i + 1)) := by simp [small5, hx]
        have e2 : small5 (rd y i :: y.drop (i + 1)) = small5 (y.drop (i + 1)) := by simp [small5, hy2]
        rw [e1, e2]
        exact ih (i + 1) (by omega)
      · refine ev_ifn (by simpa using hy2) ?_
        have e2 : small5 (rd y i :: y.drop (i + 1)) = false := by unfold small5; rw [List.all_cons, decide_eq_false hy2]; rfl
        rw [e2, if_neg (by simp)]
        exact bad
    · refine ev_ifn (by simpa using hx) ?_
      have e1 : small5 (rd x i :: x.drop (i + 1)) = false := by unfold small5; rw [List.all_cons, decide_eq_false hx]; rfl
      rw [e1, if_neg (by simp)]
      exact bad
def mulR (m : Int) (x : List Int) (n : Int) (y : List Int) : Int × List Int × Int :=
  if likeC m x n y = 0 then (if small5 x = true ∧ small5 y = true then toldR m (mulL m x y) else (0, [], 2)) else (0, [], likeC m x n y)
theorem sMul_ev (m : Int) (x : List Int) (n : Int) (y : List Int) (hx : x.length < 4611686018427387904) (hy : y.length < 4611686018427387904) : Ev (fun k => spec_MultiplyRings.f k m x n y) (mulR m x n y) := by
  unfold spec_MultiplyRings.f mulR
  refine Ev.bind (like10_ev m x n y hx hy) ?_
  by_cases h : likeC m x n y = 0
  · rw [h, if_pos rfl]
    obtain ⟨h1, h2, rfl⟩ := likeC_zero h
    obtain ⟨g2, g40, gx, _⟩ := ringB_len h1
    obtain ⟨_, _, gy, _⟩ := ringB_len h2
    have hl := mulL_length m x y
    have := sMul_chk m x m y hx (by omega) (toldR m (mulL m x y)) (Ev.bind (sTimes_ev m x m y g2 g40 gx gy) (Ev.bind (told10_ev m (mulL m x y) (by have := unitsL_length m; omega)) (Ev.now _))) x.length 0 (by omega)
    simpa using this
  · rw [if_neg h]
    by_cases e : (0 : Int) < (x.length : Int)
    · refine Ev.step (fun k => by rw [spec_MultiplyRings.l0, if_pos e]) ?_
      exact Ev.step (fun k => by rw [spec_MultiplyRings.j1, if_neg (by simpa using h), if_neg h]) (Ev.now _)
    · refine Ev.step (fun k => by rw [spec_MultiplyRings.l0, if_neg e]) ?_
      exact Ev.step (fun k => by rw [spec_MultiplyRings.j1, if_neg (by simp), if_neg h]) (Ev.now _)
theorem iMul_ev (m : Int) (x : List Int) (n : Int) (y : List Int) : Ev (fun k => impl_MultiplyRings.f k m x n y) (mulR m x n y) := by
  unfold impl_MultiplyRings.f mulR
  refine Ev.bind (ringCode_ev m x n y) ?_
  by_cases h : likeC m x n y = 0
  · rw [if_pos h]
    refine ev_ifp h ?_
    obtain ⟨h1, h2, rfl⟩ := likeC_zero h
    obtain ⟨g2, g40, gx, _⟩ := ringB_len h1
    obtain ⟨_, _, gy, _⟩ := ringB_len h2
    have := unitsL_length m
    rw [small5_eq, small5_eq]
    refine ev_some ?_
    by_cases hx : small5 x = true
    · refine ev_ifp hx (ev_some ?_)
      by_cases hy : small5 y = true
      · rw [if_pos ⟨hx, hy⟩]
        refine Ev.step (fun k => by rw [impl_MultiplyRings.j0, if_neg (by simpa using hy)]) ?_
        refine Ev.bind (i_units m (by omega)) (ev_ifp (by omega) (ev_ifp (by omega) ?_))
        rw [Int.toNat_natCast]
        exact iMul_l0 m x m y g2 g40 gx gy (unitsL m).length 0 _ (by omega) (by simp)
      · rw [if_neg (fun z => hy z.2)]
        exact Ev.step (fun k => by rw [impl_MultiplyRings.j0, if_pos (by simpa using hy)]) (Ev.now _)
    · rw [if_neg (fun z => hx z.1)]
      refine ev_ifn hx ?_
      exact Ev.step (fun k => by rw [impl_MultiplyRings.j0, if_pos rfl]) (Ev.now _)
  · rw [if_neg h]
    exact ev_ifn h (Ev.now _)
theorem mulR_len (m : Int) (x : List Int) (n : Int) (y : List Int) : (mulR m x n y).2.1.length ≤ 1000 := by
  unfold mulR
  by_cases h : likeC m x n y = 0
  · rw [if_pos h]
    obtain ⟨h1, _, _⟩ := likeC_zero h
    obtain ⟨g2, g40, _, _⟩ := ringB_len h1
    have := unitsL_length m
    split
    · refine Nat.le_trans (toldR_len _ _) ?_
      rw [mulL_length]; omega
    · simp
  · rw [if_neg h]; simp

/-! 300_next -/
theorem mask30 (x : Int) (h0 : 0 ≤ x) (h1 : x < 18446744073709551616) : 0 ≤ Go.bits .and .u64 x 1073741823 ∧ Go.bits .and .u64 x 1073741823 ≤ 1073741823 := by
  have h := Go.bits_mask .u64 64 (by decide) (fun n h0 h1 => by rw [IntKind.wrap_u64]; have : (2 : Int) ^ 64 = 18446744073709551616 := by decide
                                                                omega) 30 (by decide) x h0 (by have : (2 : Int) ^ 64 = 18446744073709551616 := by decide
                                                                                               omega)
  have e : ((2 : Int) ^ 30 - 1) = 1073741823 := by decide
  have e2 : ((2 : Int) ^ 30) = 1073741824 := by decide
  rw [e, e2] at h
  rw [h]
  omega
/-- A source: its code's bytes and its place. -/
def Src (c : List Int) (at_ : Int) : Prop := c.length ≤ 4096 ∧ (∀ x ∈ c, 0 ≤ x ∧ x ≤ 255) ∧ 0 ≤ at_ ∧ at_ ≤ (c.length : Int)
theorem next_ok {c : List Int} {at_ : Int} (hs : Src c at_) (h n : Int) : ∃ v at' h', spec_l01Next.f c at_ h n = some (v, at', h') ∧ Src c at' ∧ 0 ≤ v ∧ (1 ≤ n → v < n) ∧ (n < 1 → v = 0) := by
  obtain ⟨hc, hb, h0, h1⟩ := hs
  unfold spec_l01Next.f
  by_cases e : n < 1
  · exact ⟨0, at_, h, by rw [if_pos e], ⟨hc, hb, h0, h1⟩, Int.le_refl _, by omega, fun _ => rfl⟩
  rw [if_neg e]
  have hq : 0 ≤ IntKind.u64.wrap ((IntKind.u64.wrap (h * 6364136223846793005)) + 1442695040888963407) ∧ IntKind.u64.wrap ((IntKind.u64.wrap (h * 6364136223846793005)) + 1442695040888963407) < 18446744073709551616 := by
    rw [IntKind.wrap_u64]; omega
  generalize IntKind.u64.wrap ((IntKind.u64.wrap (h * 6364136223846793005)) + 1442695040888963407) = q at hq
  obtain ⟨m0, m1⟩ := mask30 (q / 2147483648) (by omega) (by omega)
  generalize Go.bits .and .u64 (q / 2147483648) 1073741823 = m at m0 m1
  by_cases e2 : at_ < (c.length : Int)
  · rw [if_pos e2, if_pos h0, if_neg (by omega)]
    obtain ⟨i, rfl⟩ := Int.eq_ofNat_of_zero_le h0
    have hi : i < c.length := by omega
    have hr : 0 ≤ rd c i ∧ rd c i ≤ 255 := by rw [rd_nat _ _ hi]; exact hb _ (List.getElem_mem hi)
    refine ⟨_, _, _, rfl, ⟨hc, hb, by unfold wrap64; omega, by unfold wrap64; omega⟩, ?_, fun hn => ?_, fun hn => absurd hn e⟩
    · exact Int.tmod_nonneg _ (by unfold wrap64; omega)
    · exact Int.tmod_lt_of_pos _ (by omega)
  · rw [if_neg e2, if_neg (by omega)]
    refine ⟨_, _, _, rfl, ⟨hc, hb, h0, h1⟩, ?_, fun hn => ?_, fun hn => absurd hn e⟩
    · exact Int.tmod_nonneg _ (by unfold wrap64; omega)
    · exact Int.tmod_lt_of_pos _ (by omega)

/-! 301_pick -/
theorem pick_ok {c : List Int} {at_ : Int} (hs : Src c at_) (h : Int) (l : List Int) (hl : l ≠ []) : ∃ v at' h', spec_l01Pick.f c at_ h l = some (v, at', h') ∧ Src c at' ∧ v ∈ l := by
  have hp : 0 < l.length := List.length_pos_iff.2 hl
  obtain ⟨v, at', h', e, hs', v0, v1, _⟩ := next_ok hs h (l.length : Int)
  have v2 := v1 (by omega)
  obtain ⟨i, rfl⟩ := Int.eq_ofNat_of_zero_le v0
  refine ⟨rd l i, at', h', ?_, hs', ?_⟩
  · unfold spec_l01Pick.f
    rw [e, Option.bind_some, if_pos (by exact v0), if_pos (by exact v2)]
  · rw [rd_nat _ _ (by omega)]; exact List.getElem_mem _

/-! 302_from -/
theorem from_l0 (c : List Int) (hc : c.length ≤ 4096) : ∀ (d i : Nat) (h : Int), i + d = c.length → ∃ h', Ev (fun k => spec_l01From.l0 k c (i : Int) c 0 h) (c, 0, h') := by
  intro d
  induction d with
  | zero =>
    intro i h hi
    exact ⟨h, Ev.step (fun k => by rw [spec_l01From.l0, if_neg (by omega)]) (Ev.now _)⟩
  | succ d ih =>
    intro i h hi
    obtain ⟨h', e⟩ := ih (i + 1) (IntKind.u64.wrap ((IntKind.u64.wrap ((IntKind.u64.wrap (h * 1099511628211)) + (IntKind.u64.wrap (rd c i)))) + 131)) (by omega)
    exact ⟨h', Ev.step (fun k => by rw [spec_l01From.l0, if_pos (by omega), if_pos (by omega), if_pos (by omega), wrap_idx i (by omega)]) e⟩
theorem from_ev (c : List Int) (hc : c.length ≤ 4096) : ∃ h', Ev (fun k => spec_l01From.f k c) (c, 0, h') := by
  unfold spec_l01From.f
  exact from_l0 c hc c.length 0 _ (by omega)

/-! 303_drawOf -/
theorem drawOf_l0 {c : List Int} (x6 m : Int) : ∀ (d i : Nat) (at_ h : Int) (o : List Int), Src c at_ → o.length < 4611686018427387904 → i + d = o.length →
    ∃ o' at' h', Ev (fun k => spec_l10DrawOf.l0 k x6 (i : Int) c at_ h m o) (m, o', at', h') ∧ Src c at' ∧ o'.length = o.length := by
  intro d
  induction d with
  | zero =>
    intro i at_ h o hs hl hi
    exact ⟨o, at_, h, Ev.step (fun k => by rw [spec_l10DrawOf.l0, if_neg (by omega)]) (Ev.now _), hs, rfl⟩
  | succ d ih =>
    intro i at_ h o hs hl hi
    obtain ⟨v, a1, h1, e1, s1, _⟩ := next_ok hs h (wrap64 ((wrap64 (2 * x6)) + 1))
    obtain ⟨o', a2, h2, e2, s2, l2⟩ := ih (i + 1) a1 h1 (o.set i (wrap64 (v - x6))) s1 (by rw [List.length_set]; exact hl) (by rw [List.length_set]; omega)
    refine ⟨o', a2, h2, Ev.step (fun k => by rw [spec_l10DrawOf.l0, if_pos (by omega), e1, Option.bind_some, if_pos (by omega), wrap_idx i (by omega), Int.toNat_natCast]) e2, s2, by rw [l2, List.length_set]⟩
theorem drawOf_ev {c : List Int} {at_ : Int} (hs : Src c at_) (h m : Int) (hm : m ≤ 1000000) : ∃ o' at' h', Ev (fun k => spec_l10DrawOf.f k c at_ h m) (m, o', at', h') ∧ Src c at' ∧ o'.length = (unitsL m).length := by
  obtain ⟨v, a1, h1, e1, s1, _⟩ := pick_ok hs h [1, 2, 9, 1000, 1000000] (by simp)
  have hu := unitsL_length m
  obtain ⟨o', a2, h2, e2, s2, l2⟩ := drawOf_l0 (c := c) v m (unitsL m).length 0 a1 h1 (List.replicate (unitsL m).length 0) s1 (by simp; omega) (by simp)
  refine ⟨o', a2, h2, ?_, s2, by simpa using l2⟩
  unfold spec_l10DrawOf.f
  refine Ev.bind (zero10_ev m hm) ?_
  rw [e1]
  exact ev_some e2

/-! 304_draw10 -/
theorem draw10_ev {c : List Int} {at_ : Int} (hs : Src c at_) (h : Int) : ∃ m o at' h', Ev (fun k => spec_l10Draw.f k c at_ h) (m, o, at', h') ∧ Src c at' ∧ m ≤ 41 ∧ o.length ≤ 41 := by
  obtain ⟨v, a1, h1, e1, s1, v0, v1, _⟩ := next_ok hs h 39
  have v1 := v1 (by omega)
  obtain ⟨n, a2, h2, e2, s2, hn⟩ := pick_ok s1 h1 [2, 3, 4, 5, 5, 6, 7, 8, 9, 12, 15, wrap64 (2 + v)] (by simp)
  have hn2 : 2 ≤ n ∧ n ≤ 40 := by
    rw [wrap_id (by omega) (by omega)] at hn
    simp only [List.mem_cons, List.not_mem_nil, or_false] at hn
    omega
  obtain ⟨o, a3, h3, e3, s3, l3⟩ := drawOf_ev s2 h2 n (by omega)
  have hu := unitsL_length n
  obtain ⟨q, a4, h4, e4, s4, q0, q1, _⟩ := next_ok s3 h3 40
  by_cases c0 : q = 0
  · obtain ⟨w, a5, h5, e5, s5, hw⟩ := pick_ok s4 h4 [1, 41, wrap64 (n + 1)] (by simp)
    have hw2 : w ≤ 41 := by
      rw [wrap_id (by omega) (by omega)] at hw
      simp only [List.mem_cons, List.not_mem_nil, or_false] at hw
      omega
    refine ⟨w, o, a5, h5, ?_, s5, hw2, by omega⟩
    unfold spec_l10Draw.f
    simp only [e1, Option.bind_some, e2]
    refine Ev.bind e3 ?_
    simp only [e4, Option.bind_some, if_pos c0, e5]
    exact Ev.now _
  by_cases c1 : q = 1
  · refine ⟨n, o ++ [0], a4, h4, ?_, s4, by omega, by simp; omega⟩
    unfold spec_l10Draw.f
    simp only [e1, Option.bind_some, e2]
    refine Ev.bind e3 ?_
    simp only [e4, Option.bind_some, if_neg c0, if_pos c1]
    exact ev_ifp (by omega) (Ev.now _)
  by_cases c2 : q = 2
  · obtain ⟨w, a5, h5, e5, s5, hw⟩ := pick_ok s4 h4 [1000000000, 1000000001] (by simp)
    have hl : 0 < o.length := by
      rw [l3]
      have h1 : (1 : Int) ∈ unitsL n := by
        unfold unitsL
        rw [List.mem_filter]
        exact ⟨mem_upto.2 (by omega), by simp⟩
      exact List.length_pos_of_mem h1
    refine ⟨n, o.set 0 w, a5, h5, ?_, s5, by omega, by rw [List.length_set]; omega⟩
    unfold spec_l10Draw.f
    simp only [e1, Option.bind_some, e2]
    refine Ev.bind e3 ?_
    simp only [e4, Option.bind_some, if_neg c0, if_neg c1, if_pos c2, e5]
    exact ev_ifp (by omega) (Ev.now _)
  · refine ⟨n, o, a4, h4, ?_, s4, by omega, by omega⟩
    unfold spec_l10Draw.f
    simp only [e1, Option.bind_some, e2]
    refine Ev.bind e3 ?_
    simp only [e4, Option.bind_some, if_neg c0, if_neg c1, if_neg c2]
    exact Ev.now _

/-! 305_two10 -/
theorem two10_ev {c : List Int} {at_ : Int} (hs : Src c at_) (h : Int) : ∃ m x n y at' h', Ev (fun k => spec_l10Two.f k c at_ h) (m, x, n, y, at', h') ∧ Src c at' ∧ x.length ≤ 41 ∧ y.length ≤ 41 := by
  obtain ⟨m, x, a1, h1, e1, s1, hm, hx⟩ := draw10_ev hs h
  obtain ⟨v, a2, h2, e2, s2, v0, v1, _⟩ := next_ok s1 h1 24
  have far : ∃ n y a3 h3, Ev (fun k => spec_l10Two.j0 k true c a2 h2 m x) (m, x, n, y, a3, h3) ∧ Src c a3 ∧ y.length ≤ 41 := by
    obtain ⟨n, y, a3, h3, e3, s3, _, hy⟩ := draw10_ev s2 h2
    exact ⟨n, y, a3, h3, Ev.step (fun k => by rw [spec_l10Two.j0, if_pos rfl]) (Ev.bind e3 (Ev.now _)), s3, hy⟩
  by_cases c0 : v = 0
  · obtain ⟨n, y, a3, h3, e3, s3, hy⟩ := far
    refine ⟨m, x, n, y, a3, h3, ?_, s3, hx, hy⟩
    unfold spec_l10Two.f
    refine Ev.bind e1 ?_
    simp only [e2, Option.bind_some, if_pos c0]
    exact e3
  · have hi := is10_ev m x (by omega)
    cases hr : ringB m x with
    | false =>
      obtain ⟨n, y, a3, h3, e3, s3, hy⟩ := far
      refine ⟨m, x, n, y, a3, h3, ?_, s3, hx, hy⟩
      unfold spec_l10Two.f
      refine Ev.bind e1 ?_
      simp only [e2, Option.bind_some, if_neg c0]
      rw [hr] at hi
      exact Ev.bind hi e3
    | true =>
      obtain ⟨y, a3, h3, e3, s3, hy⟩ := drawOf_ev s2 h2 m (by omega)
      have hu := unitsL_length m
      refine ⟨m, x, m, y, a3, h3, ?_, s3, hx, by omega⟩
      unfold spec_l10Two.f
      refine Ev.bind e1 ?_
      simp only [e2, Option.bind_some, if_neg c0]
      rw [hr] at hi
      exact Ev.bind hi (Ev.step (fun k => by rw [spec_l10Two.j0, if_neg (by simp)]) (Ev.bind e3 (Ev.now _)))

/-! 306_drawMul -/
theorem src0 {c : List Int} (hc : c.length ≤ 4096) (hb : ∀ x ∈ c, 0 ≤ x ∧ x ≤ 255) : Src c 0 := ⟨hc, hb, Int.le_refl _, by omega⟩
theorem drawMul_ev {c : List Int} (hc : c.length ≤ 4096) (hb : ∀ x ∈ c, 0 ≤ x ∧ x ≤ 255) : ∃ m x n y, Ev (fun k => spec_DrawMultiplyRings.f k c) (m, x, n, y) ∧ x.length ≤ 41 ∧ y.length ≤ 41 := by
  obtain ⟨h0, e0⟩ := from_ev c hc
  obtain ⟨m, x, n, y, a1, h1, e1, s1, hx, hy⟩ := two10_ev (src0 hc hb) h0
  refine ⟨m, x, n, y, ?_, hx, hy⟩
  unfold spec_DrawMultiplyRings.f
  exact Ev.bind e0 (Ev.bind e1 (Ev.now _))

/-! 307_near -/
theorem near_ok {c : List Int} {at_ : Int} (hs : Src c at_) (h n : Int) : ∃ v at' h', spec_l01Near.f c at_ h n = some (v, at', h') ∧ Src c at' := by
  obtain ⟨q, a1, h1, e1, s1, _⟩ := next_ok hs h 14
  unfold spec_l01Near.f
  rw [e1, Option.bind_some]
  by_cases c0 : q = 0
  · obtain ⟨w, a2, h2, e2, s2, _⟩ := pick_ok s1 h1 [(-1), wrap64 (n + 1), 1099511627776, (-4611686018427387904)] (by simp)
    exact ⟨w, a2, h2, by simp only [if_pos c0, e2, Option.bind_some], s2⟩
  · obtain ⟨w, a2, h2, e2, s2, _⟩ := next_ok s1 h1 (wrap64 (n + 1))
    exact ⟨w, a2, h2, by simp only [if_neg c0, e2, Option.bind_some], s2⟩

/-! 308_drawAdd -/
theorem drawAdd_ev {c : List Int} (hc : c.length ≤ 4096) (hb : ∀ x ∈ c, 0 ≤ x ∧ x ≤ 255) : ∃ m x n y a, Ev (fun k => spec_DrawAddRings.f k c) (m, x, n, y, a) ∧ x.length ≤ 41 ∧ y.length ≤ 41 := by
  obtain ⟨h0, e0⟩ := from_ev c hc
  obtain ⟨m, x, n, y, a1, h1, e1, s1, hx, hy⟩ := two10_ev (src0 hc hb) h0
  obtain ⟨v, a2, h2, e2, s2⟩ := near_ok s1 h1 1000
  obtain ⟨w, a3, h3, e3, s3, _⟩ := pick_ok s2 h2 [1, (-1), 0, 2, v] (by simp)
  refine ⟨m, x, n, y, w, ?_, hx, hy⟩
  unfold spec_DrawAddRings.f
  refine Ev.bind e0 (Ev.bind e1 ?_)
  simp only [e2, Option.bind_some, e3]
  exact Ev.now _

/-! 309_drawTurn -/
theorem drawTurn_ev {c : List Int} (hc : c.length ≤ 4096) (hb : ∀ x ∈ c, 0 ≤ x ∧ x ≤ 255) : ∃ m x, Ev (fun k => spec_DrawTurnRing.f k c) (m, x) ∧ x.length ≤ 41 := by
  obtain ⟨h0, e0⟩ := from_ev c hc
  obtain ⟨m, x, a1, h1, e1, s1, _, hx⟩ := draw10_ev (src0 hc hb) h0
  refine ⟨m, x, ?_, hx⟩
  unfold spec_DrawTurnRing.f
  exact Ev.bind e0 (Ev.bind e1 (Ev.now _))

/-! 310_drawTotal -/
theorem drawTotal_ev {c : List Int} (hc : c.length ≤ 4096) (hb : ∀ x ∈ c, 0 ≤ x ∧ x ≤ 255) : ∃ m x, Ev (fun k => spec_DrawTotalOfRing.f k c) (m, x) ∧ x.length ≤ 41 := by
  obtain ⟨h0, e0⟩ := from_ev c hc
  obtain ⟨m, x, a1, h1, e1, s1, _, hx⟩ := draw10_ev (src0 hc hb) h0
  refine ⟨m, x, ?_, hx⟩
  unfold spec_DrawTotalOfRing.f
  exact Ev.bind e0 (Ev.bind e1 (Ev.now _))

/-! 311_drawRes -/
theorem drawRes_ev {c : List Int} (hc : c.length ≤ 4096) (hb : ∀ x ∈ c, 0 ≤ x ∧ x ≤ 255) : ∃ n, Ev (fun k => spec_DrawResiduesOf.f k c) n := by
  obtain ⟨h0, e0⟩ := from_ev c hc
  obtain ⟨v, a1, h1, e1, s1, _⟩ := next_ok (src0 hc hb) h0 43
  refine ⟨v, ?_⟩
  unfold spec_DrawResiduesOf.f
  refine Ev.bind e0 ?_
  simp only [e1, Option.bind_some]
  exact Ev.now _

/-! 320_likeInts -/
theorem like_l0 (l : List Int) (hl : l.length < 4611686018427387904) : ∀ (d i : Nat), i + d = l.length → Ev (fun k => laws_likeInts.l0 k l l (i : Int)) true := by
  intro d
  induction d with
  | zero =>
    intro i hi
    exact Ev.step (fun k => by rw [laws_likeInts.l0, if_neg (by omega)]) (Ev.now _)
  | succ d ih =>
    intro i hi
    exact Ev.step (fun k => by rw [laws_likeInts.l0, if_pos (by omega), if_pos (by omega), if_pos (by omega), if_pos rfl, wrap_idx i (by omega)]) (ih (i + 1) (by omega))
theorem like_self (l : List Int) (hl : l.length < 4611686018427387904) : Ev (fun k => laws_likeInts.f k l l) true := by
  unfold laws_likeInts.f
  exact ev_ifp rfl (like_l0 l hl l.length 0 (by omega))

/-! 321_ring9 -/
theorem ring9_self (m : Int) (l : List Int) (hl : l.length < 4611686018427387904) : Ev (fun k => laws_ring9.f k m l m l) true := by
  unfold laws_ring9.f
  exact ev_ifp rfl (Ev.bind (like_self l hl) (Ev.now _))

/-! 322_sum -/
theorem lsum_l0 (x : List Int) (hb : x.length < 4611686018427387904) : ∀ (d i : Nat) (s : Int), i + d = x.length → Ev (fun k => laws_sum.l0 k x s (i : Int)) (wsum s (x.drop i)) := by
  intro d
  induction d with
  | zero =>
    intro i s hi
    rw [List.drop_of_length_le (by omega)]
    exact Ev.step (fun k => by rw [laws_sum.l0, if_neg (by omega)]; rfl) (Ev.now _)
  | succ d ih =>
    intro i s hi
    rw [drop_at x i (by omega)]
    exact Ev.step (fun k => by rw [laws_sum.l0, if_pos (by omega), if_pos (by omega), wrap_idx i (by omega)]) (ih (i + 1) (wrap64 (s + rd x i)) (by omega))
theorem lsum_ev (x : List Int) (hb : x.length < 4611686018427387904) : Ev (fun k => laws_sum.f k x) (wsum 0 x) := by
  unfold laws_sum.f
  exact lsum_l0 x hb x.length 0 0 (by omega)

/-! 323_resBoth -/
theorem res_both (n : Int) : ∃ (l : List Int) (c : Int), l.length ≤ 1000 ∧ Ev (fun k => spec_ResiduesOf.f k n) (l, c) ∧ Ev (fun k => impl_ResiduesOf.f k n) (l, c) ∧ (c = 0 → 2 ≤ n ∧ n ≤ 40 ∧ l = unitsL n) := by
  unfold spec_ResiduesOf.f impl_ResiduesOf.f impl_isModulus.f
  simp only [in_eq, within_eq, Option.bind_some]
  by_cases h : 2 ≤ n ∧ n ≤ 40
  · refine ⟨unitsL n, 0, Nat.le_trans (unitsL_length n) (by omega), ev_ifp (by simpa using h) ?_, ev_ifp (by simpa using h) ?_, fun _ => ⟨h.1, h.2, rfl⟩⟩
    · exact Ev.bind (s_units n (by omega)) (Ev.now _)
    · exact Ev.bind (i_units n (by omega)) (Ev.now _)
  · exact ⟨[], 2, by simp, ev_ifn (by simpa using h) (Ev.now _), ev_ifn (by simpa using h) (Ev.now _), fun h => absurd h (by decide)⟩

/-! 324_totientOf -/
theorem totientOf_ev (n : Int) (h1 : 1 ≤ n) (h2 : n ≤ 1000) : Ev (fun k => impl_TotientOf.f k n) (((unitsL n).length : Int), 0) := by
  unfold impl_TotientOf.f
  simp only [within_eq, Option.bind_some]
  exact ev_ifp (by simp; omega) (Ev.bind (totient_ev n (by omega) (by omega)) (Ev.now _))

/-! 330_ringLaws -/
theorem turnG_at {n : Int} {x : List Int} {i : Nat} (hi : i < (unitsL n).length) : rd ((unitsL n).map (turnG n x)) i = rd x (invPos n i : Nat) := by
  rw [rd_nat _ _ (by rw [List.length_map]; exact hi), List.getElem_map, ← rd_nat _ _ hi]
  rfl
theorem turn_turn {n : Int} {x : List Int} (h2 : 2 ≤ n) (h40 : n ≤ 40) (hx : x.length = (unitsL n).length) : (unitsL n).map (turnG n ((unitsL n).map (turnG n x))) = x := by
  refine list_ext_rd (by rw [List.length_map, hx]) (fun i hi => ?_)
  rw [List.length_map] at hi
  obtain ⟨h1, h3, _⟩ := invPos_facts h2 h40 i hi
  rw [turnG_at hi, turnG_at h1, h3]
theorem turn_small {n : Int} {x : List Int} (h2 : 2 ≤ n) (h40 : n ≤ 40) (hx : ringB n x = true) : ringB n ((unitsL n).map (turnG n x)) = true := by
  obtain ⟨_, _, hl, hs⟩ := ringB_len hx
  unfold ringB
  have e : smallL ((unitsL n).map (turnG n x)) = true := by
    unfold smallL at hs ⊢
    rw [List.all_eq_true] at hs ⊢
    intro v hv
    obtain ⟨b, hb, rfl⟩ := List.mem_map.1 hv
    obtain ⟨i, hi, rfl⟩ := List.getElem_of_mem hb
    have ht : turnG n x (unitsL n)[i] = rd x (invPos n i : Nat) := by rw [← rd_nat _ _ hi]; rfl
    rw [ht]
    obtain ⟨h1, _, _⟩ := invPos_facts h2 h40 i hi
    rw [rd_nat _ _ (by omega)]
    exact hs _ (List.getElem_mem _)
  rw [e]
  simp [h2, h40]
theorem turn_sum {n : Int} {x : List Int} (h2 : 2 ≤ n) (h40 : n ≤ 40) (hx : x.length = (unitsL n).length) : wsum 0 ((unitsL n).map (turnG n x)) = wsum 0 x := by
  rw [← wsum_wrapped _ 0 (wrap_id (by omega) (by omega)), ← wsum_wrapped x 0 (wrap_id (by omega) (by omega))]
  refine Cg.eq ?_
  refine (wsum_sum _).trans ?_
  rw [List.length_map]
  refine (Cg.of ?_).trans (wsum_sum x).symm
  rw [hx, ← sumF_invol (fun j => rd x (j : Nat)) (invPos n) (unitsL n).length (fun i hi => by obtain ⟨a, b, _⟩ := invPos_facts h2 h40 i hi; exact ⟨a, b⟩)]
  exact sumF_congr _ 0 (fun i _ hi => turnG_at (by omega))
theorem add_sum {c : Int} {x y : List Int} (hy : y.length = x.length) : wsum 0 (addL c x y) = wrap64 (wsum 0 x + wrap64 (c * wsum 0 y)) := by
  have hl : (addL c x y).length = x.length := by unfold addL; simp; omega
  rw [← wsum_wrapped _ 0 (wrap_id (by omega) (by omega))]
  refine Cg.eq ?_
  refine (wsum_sum _).trans ?_
  rw [hl]
  have s1 : Cg (sumF 0 x.length fun j => rd (addL c x y) j) (sumF 0 x.length fun j => rd x j + c * rd y j) := by
    refine sumF_cg _ 0 (fun j _ hj => ?_)
    have := addL_at c x y j (by omega) (by omega)
    have e : rd (addL c x y) j = wrap64 (rd x j + wrap64 (c * rd y j)) := by
      rw [rd_nat _ _ (by omega)]
      rw [List.getElem?_eq_getElem (by omega)] at this
      exact Option.some.inj this
    rw [e]
    exact (Cg.wrap _).trans (Cg.add (Cg.refl _) (Cg.wrap _))
  refine s1.trans ?_
  rw [sumF_add, sumF_left]
  have ex := wsum_sum x
  have ey := wsum_sum y
  rw [hy] at ey
  exact (Cg.add ex ((Cg.wrap _).trans (Cg.mul (Cg.refl c) ey))).symm
theorem mulR_ok {m : Int} {x : List Int} {n : Int} {y : List Int} {q : Int} {l : List Int} (h : mulR m x n y = (q, l, 0)) :
    2 ≤ m ∧ m ≤ 40 ∧ x.length = (unitsL m).length ∧ y.length = (unitsL m).length ∧ q = m ∧ l = mulL m x y ∧ mulR n y m x = (m, mulL m x y, 0) := by
  unfold mulR at h
  by_cases c : likeC m x n y = 0
  · obtain ⟨h1, h2, rfl⟩ := likeC_zero c
    obtain ⟨g2, g40, gx, _⟩ := ringB_len h1
    obtain ⟨_, _, gy, _⟩ := ringB_len h2
    rw [if_pos c] at h
    by_cases s : small5 x = true ∧ small5 y = true
    · rw [if_pos s] at h
      unfold toldR at h
      by_cases f : smallL (mulL m x y) = true
      · rw [if_pos f] at h
        injection h with e1 h
        injection h with e2 _
        refine ⟨g2, g40, gx, gy, e1.symm, e2.symm, ?_⟩
        unfold mulR
        rw [if_pos (show likeC m y m x = 0 by unfold likeC; rw [if_pos ⟨h2, h1⟩, if_pos rfl]), if_pos ⟨s.2, s.1⟩, mulL_comm m y x]
        unfold toldR
        rw [if_pos f]
      · rw [if_neg f] at h
        injection h with _ h
        injection h with _ h
        exact absurd h (by decide)
    · rw [if_neg s] at h
      injection h with _ h
      injection h with _ h
      exact absurd h (by decide)
  · rw [if_neg c] at h
    injection h with _ h
    injection h with _ h
    exact absurd h c
theorem mulR_bad {m : Int} {x : List Int} {n : Int} {y : List Int} {q : Int} {l : List Int} {e : Int} (h : mulR m x n y = (q, l, e)) (he : e ≠ 0) : l = [] := by
  unfold mulR at h
  by_cases c : likeC m x n y = 0
  · rw [if_pos c] at h
    by_cases s : small5 x = true ∧ small5 y = true
    · rw [if_pos s] at h
      unfold toldR at h
      by_cases f : smallL (mulL m x y) = true
      · rw [if_pos f] at h
        injection h with _ h
        injection h with _ h
        exact absurd h.symm he
      · rw [if_neg f] at h
        injection h with _ h
        injection h with h _
        exact h.symm
    · rw [if_neg s] at h
      injection h with _ h
      injection h with h _
      exact h.symm
  · rw [if_neg c] at h
    injection h with _ h
    injection h with h _
    exact h.symm
theorem addR_ok {m : Int} {x : List Int} {n : Int} {y : List Int} {c q : Int} {l : List Int} (h : addR m x n y c = (q, l, 0)) : y.length = x.length ∧ l = addL c x y := by
  unfold addR at h
  by_cases k : likeC m x n y = 0
  · obtain ⟨h1, h2, rfl⟩ := likeC_zero k
    obtain ⟨_, _, gx, _⟩ := ringB_len h1
    obtain ⟨_, _, gy, _⟩ := ringB_len h2
    rw [if_pos k] at h
    by_cases s : -1000 ≤ c ∧ c ≤ 1000
    · rw [if_pos s] at h
      unfold toldR at h
      by_cases f : smallL (addL c x y) = true
      · rw [if_pos f] at h
        injection h with _ h
        injection h with h _
        exact ⟨by omega, h.symm⟩
      · rw [if_neg f] at h
        injection h with _ h
        injection h with _ h
        exact absurd h (by decide)
    · rw [if_neg s] at h
      injection h with _ h
      injection h with _ h
      exact absurd h (by decide)
  · rw [if_neg k] at h
    injection h with _ h
    injection h with _ h
    exact absurd h k
theorem turnR_ok {m : Int} {x : List Int} {q : Int} {l : List Int} (h : turnR m x = (q, l, 0)) : 2 ≤ m ∧ m ≤ 40 ∧ ringB m x = true ∧ q = m ∧ l = (unitsL m).map (turnG m x) ∧ turnR q l = (m, x, 0) := by
  unfold turnR at h
  by_cases c : ringB m x = true
  · rw [if_pos c] at h
    injection h with e1 h
    injection h with e2 _
    obtain ⟨g2, g40, gx, _⟩ := ringB_len c
    subst e1
    subst e2
    refine ⟨g2, g40, c, rfl, rfl, ?_⟩
    unfold turnR
    rw [if_pos (turn_small g2 g40 c), turn_turn g2 g40 gx]
  · rw [if_neg c] at h
    injection h with _ h
    injection h with _ h
    exact absurd h (by decide)

end Go.Proofs.Ythkdkiifchefhaa.FnRingsQ
