/- Facts on what the printed functions answer. -/
import Derived.Test.YthkdkiifchefhaaPlInv
import Derived.Test.YthkdkiifchefhaaPlLists
import Derived.Test.YthkdkiifchefhaaPlMul
import Derived.Test.YthkdkiifchefhaaPFnExactMultiplyRingsx
set_option linter.unusedVariables false
set_option linter.unusedSimpArgs false
namespace Go.Proofs.Ythkdkiifchefhaa.FnExactMultiplyRingsQ
open Go.RowKit Go.Proofs.Ythkdkiifchefhaa.PFnExactMultiplyRings Go.Proofs.Ythkdkiifchefhaa.Plain Go.Proofs.YthkdkiifchefhaaW.PrintWords Go.Proofs.YthkdkiifchefhaaW.PrintLast Go.Proofs.YthkdkiifchefhaaW.PrintMore

/-! 010_eq -/
theorem eq_l0 (x y : List Int) (hl : x.length = y.length) (hb : x.length < 4611686018427387904) : ∀ d i : Nat, i + d = x.length →
    Ev (fun k => laws_eqInt64S.l0 k x y (i : Int)) (decide (x.drop i = y.drop i)) := by
  intro d
  induction d with
  | zero =>
    intro i hi
    refine Ev.step (fun k => by rw [laws_eqInt64S.l0, if_neg (by omega)]) ?_
    rw [List.drop_of_length_le (by omega), List.drop_of_length_le (by omega)]
    exact Ev.now _
  | succ d ih =>
    intro i hi
    refine Ev.step (fun k => by rw [laws_eqInt64S.l0, if_pos (by omega), if_pos (by omega), if_pos (by omega), wrap_idx i (by omega)]) ?_
    rw [drop_at x i (by omega), drop_at y i (by omega)]
    by_cases h : rd x i = rd y i
    · refine ev_ifp h ?_
      have := ih (i + 1) (by omega)
      simpa [h] using this
    · refine ev_ifn h ?_
      have : decide (rd x (i:Int) :: x.drop (i + 1) = rd y (i:Int) :: y.drop (i + 1)) = false := by simp [h]
      rw [this]
      exact Ev.now _

theorem eq_ev (x y : List Int) (hb : x.length < 4611686018427387904) : Ev (fun k => laws_eqInt64S.f k x y) (decide (x = y)) := by
  by_cases hl : x.length = y.length
  · refine Ev.congr (fun k => by rw [laws_eqInt64S.f, if_pos (by omega)]) ?_
    have := eq_l0 x y hl hb x.length 0 (by omega)
    simpa using this
  · refine Ev.congr (fun k => by rw [laws_eqInt64S.f, if_neg (by omega)]) ?_
    have : decide (x = y) = false := by simp; intro h; exact hl (by rw [h])
    rw [this]
    exact Ev.now _

theorem eq_self (x : List Int) (hb : x.length < 4611686018427387904) : Ev (fun k => laws_eqInt64S.f k x x) true := by
  have := eq_ev x x hb
  simpa using this

/-! 011_mark -/
theorem mark_l0 (d : Nat) : ∀ (l : List Int) (m : Int) (i : Nat), i + d = l.length → l.length < 4611686018427387904 → 0 ≤ m → m + d < 4611686018427387904 →
    Ev (fun k => laws_markInt64S.l0 k l m (i : Int)) (m + d, l.take i ++ iot m d) := by
  induction d with
  | zero =>
    intro l m i hi hb h0 hm
    refine Ev.step (fun k => by rw [laws_markInt64S.l0, if_neg (by omega)]) ?_
    have e : l.take i ++ iot m 0 = l := by simp only [iot, List.append_nil]; exact List.take_of_length_le (by omega)
    rw [e]; simpa using Ev.now (m, l)
  | succ d ih =>
    intro l m i hi hb h0 hm
    refine Ev.step (fun k => by rw [laws_markInt64S.l0, if_pos (by omega), if_pos (by omega), wrap_idx i (by omega), wrap_id (x := m + 1) (by omega) (by omega)]) ?_
    have := ih (l.set i m) (m + 1) (i + 1) (by simp; omega) (by simp; omega) (by omega) (by omega)
    have e : (l.set i m).take (i + 1) ++ iot (m + 1) d = l.take i ++ iot m (d + 1) := by
      have hs : i < (l.set i m).length := by simp; omega
      rw [List.take_succ_eq_append_getElem hs]
      simp only [List.getElem_set_self, iot, List.append_assoc, List.singleton_append]
      rw [List.take_set, List.set_eq_of_length_le (by rw [List.length_take]; omega)]
    rw [e] at this
    have e2 : m + 1 + (d : Int) = m + ((d + 1 : Nat) : Int) := by omega
    rw [e2] at this
    simpa using this

theorem mark_ev (l : List Int) (m : Int) (hm0 : 0 ≤ m) (hm : m + l.length < 4611686018427387904) : Ev (fun k => laws_markInt64S.f k l m) (m + l.length, iot m l.length) := by
  have := mark_l0 l.length l m 0 (by omega) (by omega) hm0 (by omega)
  simpa [laws_markInt64S.f] using this

/-! 012_held -/
theorem held_l0 (d : Nat) : ∀ (l : List Int) (m : Int) (i : Nat), i + d = l.length → l.length < 4611686018427387904 → l.drop i = iot m d → 0 ≤ m → m + d < 4611686018427387904 →
    Ev (fun k => laws_heldInt64S.l0 k l m (i : Int)) (m + d) := by
  induction d with
  | zero =>
    intro l m i hi hb hd h0 hm
    refine Ev.step (fun k => by rw [laws_heldInt64S.l0, if_neg (by omega)]) ?_
    simpa using Ev.now m
  | succ d ih =>
    intro l m i hi hb hd h0 hm
    rw [drop_at l i (by omega)] at hd
    simp only [iot, List.cons.injEq] at hd
    refine Ev.step (fun k => by rw [laws_heldInt64S.l0, if_pos (by omega), if_pos (by omega), if_pos hd.1, wrap_idx i (by omega), wrap_id (x := m + 1) (by omega) (by omega)]) ?_
    have := ih l (m + 1) (i + 1) (by omega) hb hd.2 (by omega) (by omega)
    have e2 : m + 1 + (d : Int) = m + ((d + 1 : Nat) : Int) := by omega
    rw [e2] at this
    exact this

theorem held_ev (m : Int) (n : Nat) (hm0 : 0 ≤ m) (hm : m + n < 4611686018427387904) : Ev (fun k => laws_heldInt64S.f k (iot m n) m) (m + n) := by
  have := held_l0 n (iot m n) m 0 (by simp [iot_length]) (by simp [iot_length]; omega) (by simp) hm0 hm
  simpa [laws_heldInt64S.f] using this

/-! 020_in -/
theorem in_eq (a b c : Int) : spec_l01In.f a b c = some (decide (b ≤ a ∧ a ≤ c)) := by
  unfold spec_l01In.f
  by_cases h : a ≥ b
  · rw [if_pos h]; simp [show b ≤ a from h]
  · rw [if_neg h]; simp [show ¬ b ≤ a from h]

/-! 021_within -/
theorem within_eq (a b c : Int) : impl_within.f a b c = some (decide (b ≤ a ∧ a ≤ c)) := by
  unfold impl_within.f
  by_cases h : b ≤ a
  · rw [if_pos h]; simp [h]
  · rw [if_neg h]; simp [h]

/-! 022_modulus -/
theorem modulus_eq (m : Int) : impl_isModulus.f m = some (decide (2 ≤ m ∧ m ≤ 40)) := by
  unfold impl_isModulus.f; rw [within_eq]; rfl

/-! 030_sgcd -/
theorem sgcd_l0 (n : Nat) : ∀ (a b : Int), 0 ≤ a → 0 ≤ b → b.toNat ≤ n → a ≤ 9223372036854775807 → b ≤ 9223372036854775807 →
    Ev (fun k => spec_l01Gcd.l0 k a b) ((Int.gcd a b : Nat) : Int) := by
  induction n with
  | zero =>
    intro a b ha hb hn hm hbm
    obtain rfl : b = 0 := by omega
    refine Ev.step (fun k => by rw [spec_l01Gcd.l0, if_pos rfl]) ?_
    have : mx a (wrap64 (-a)) = ((Int.gcd a 0 : Nat) : Int) := by
      rw [wrap_id (by omega) (by omega)]; unfold mx; simp; split <;> omega
    rw [this]; exact Ev.now _
  | succ n ih =>
    intro a b ha hb hn hm hbm
    by_cases h : b = 0
    · exact (ih a b ha hb (by omega) hm hbm)
    · refine Ev.step (fun k => by rw [spec_l01Gcd.l0, if_neg h]) ?_
      have h0 : 0 < b := by omega
      have hr : Int.tmod a b = a % b := Int.tmod_eq_emod_of_nonneg ha
      have h1 := Int.emod_nonneg a h
      have h2 := Int.emod_lt_of_pos a h0
      have := ih b (Int.tmod a b) hb (by rw [hr]; exact h1) (by rw [hr]; omega) hbm (by rw [hr]; omega)
      rwa [gcd_tmod a b ha h0] at this

theorem sgcd_ev (a b : Int) (ha : 0 ≤ a) (hb : 0 ≤ b) (hm : a ≤ 9223372036854775807) (hbm : b ≤ 9223372036854775807) :
    Ev (fun k => spec_l01Gcd.f k a b) ((Int.gcd a b : Nat) : Int) := sgcd_l0 b.toNat a b ha hb (Nat.le_refl _) hm hbm

/-! 031_igcd -/
theorem size_abs (a : Int) (h : -9223372036854775807 ≤ a) (h1 : a ≤ 9223372036854775807) : mx a (wrap64 (-a)) = (a.natAbs : Int) := by
  rw [wrap_id (by omega) (by omega)]; unfold mx; split <;> omega

theorem igcd_l0 (n : Nat) : ∀ (a b : Int), 0 ≤ a → 0 ≤ b → b.toNat ≤ n →
    Ev (fun k => impl_gcd.l0 k a b) ((Int.gcd a b : Nat) : Int) := by
  induction n with
  | zero =>
    intro a b ha hb hn
    obtain rfl : b = 0 := by omega
    refine Ev.step (fun k => by rw [impl_gcd.l0, if_neg (by omega)]) ?_
    have : a = ((Int.gcd a 0 : Nat) : Int) := by simp; omega
    conv => rhs; rw [← this]
    exact Ev.now _
  | succ n ih =>
    intro a b ha hb hn
    by_cases h : b = 0
    · exact (ih a b ha hb (by omega))
    · have h0 : 0 < b := by omega
      refine Ev.step (fun k => by rw [impl_gcd.l0, if_pos h0, if_neg h]) ?_
      have hr : Int.tmod a b = a % b := Int.tmod_eq_emod_of_nonneg ha
      have h1 := Int.emod_nonneg a h
      have h2 := Int.emod_lt_of_pos a h0
      have := ih b (Int.tmod a b) hb (by rw [hr]; exact h1) (by rw [hr]; omega)
      rwa [gcd_tmod a b ha h0] at this

theorem igcd_ev (a b : Int) (ha : -9223372036854775807 ≤ a) (hb : -9223372036854775807 ≤ b) (ha1 : a ≤ 9223372036854775807) (hb1 : b ≤ 9223372036854775807) :
    Ev (fun k => impl_gcd.f k a b) ((Int.gcd a b : Nat) : Int) := by
  unfold impl_gcd.f impl_size.f
  refine ev_some (ev_some ?_)
  rw [size_abs a ha ha1, size_abs b hb hb1]
  have := igcd_l0 b.natAbs (a.natAbs : Int) (b.natAbs : Int) (by omega) (by omega) (by omega)
  have e : Int.gcd (a.natAbs : Int) (b.natAbs : Int) = Int.gcd a b := by simp [Int.gcd]
  rwa [e] at this

/-! 040_primeto -/
theorem prime_to_ev (a n : Int) (h0 : 1 ≤ a) (h1 : a ≤ n) (hn : n ≤ 9223372036854775807) : Ev (fun k => impl_isPrimeTo.f k a n) (decide ((Int.gcd a n : Int) = 1)) := by
  unfold impl_isPrimeTo.f
  rw [within_eq]
  refine ev_some ?_
  refine ev_ifp (by simp; omega) ?_
  refine Ev.bind (igcd_ev a n (by omega) (by omega) (by omega) hn) ?_
  exact Ev.now _

/-! 041_sunits -/
theorem s_units_l0 (n : Int) (hn : n ≤ 1000000) (d : Nat) : ∀ (acc : List Int) (a : Int), 1 ≤ a → (n + 1 - a).toNat = d → acc.length + d ≤ 1000000 →
    Ev (fun k => spec_l10Residues.l0 k n acc a) (acc ++ unitsFrom a n) := by
  induction d with
  | zero =>
    intro acc a ha hd hl
    refine Ev.step (fun k => by rw [spec_l10Residues.l0, if_neg (by omega)]) ?_
    unfold unitsFrom; rw [upto_nil (by omega)]; simpa using Ev.now acc
  | succ d ih =>
    intro acc a ha hd hl
    refine Ev.step (fun k => by rw [spec_l10Residues.l0, if_pos (by omega), wrap_id (x := a + 1) (by omega) (by omega)]) ?_
    refine Ev.bind (sgcd_ev a n (by omega) (by omega) (by omega) (by omega)) ?_
    have e : unitsFrom a n = if (Int.gcd a n : Int) = 1 then a :: unitsFrom (a + 1) n else unitsFrom (a + 1) n := by
      unfold unitsFrom; rw [upto_cons (by omega), List.filter_cons]; simp
    by_cases h : (Int.gcd a n : Int) = 1
    · refine ev_ifp h (ev_ifp (by omega) ?_)
      have := ih (acc ++ [a]) (a + 1) (by omega) (by omega) (by simp; omega)
      rw [e, if_pos h]; simpa using this
    · refine ev_ifn h ?_
      have := ih acc (a + 1) (by omega) (by omega) (by omega)
      rw [e, if_neg h]; exact this

theorem s_units (n : Int) (hn : n ≤ 1000000) : Ev (fun k => spec_l10Residues.f k n) (unitsL n) := by
  have := s_units_l0 n hn (n + 1 - 1).toNat [] 1 (by omega) rfl (by simp; omega)
  simpa [spec_l10Residues.f, unitsFrom_one] using this

/-! 042_iunits -/
theorem i_units_l0 (n : Int) (hn : n ≤ 1000000) (d : Nat) : ∀ (acc : List Int) (a : Int), 1 ≤ a → (n + 1 - a).toNat = d → acc.length + d ≤ 1000000 →
    Ev (fun k => impl_unitsOf.l0 k n acc a) (acc ++ unitsFrom a n) := by
  induction d with
  | zero =>
    intro acc a ha hd hl
    refine Ev.step (fun k => by rw [impl_unitsOf.l0, if_neg (by omega)]) ?_
    unfold unitsFrom; rw [upto_nil (by omega)]; simpa using Ev.now acc
  | succ d ih =>
    intro acc a ha hd hl
    refine Ev.step (fun k => by rw [impl_unitsOf.l0, if_pos (by omega), wrap_id (x := a + 1) (by omega) (by omega)]) ?_
    refine Ev.bind (prime_to_ev a n (by omega) (by omega) (by omega)) ?_
    have e : unitsFrom a n = if (Int.gcd a n : Int) = 1 then a :: unitsFrom (a + 1) n else unitsFrom (a + 1) n := by
      unfold unitsFrom; rw [upto_cons (by omega), List.filter_cons]; simp
    by_cases h : (Int.gcd a n : Int) = 1
    · refine ev_ifp (by simpa using h) (ev_ifp (by omega) ?_)
      have := ih (acc ++ [a]) (a + 1) (by omega) (by omega) (by simp; omega)
      rw [e, if_pos h]; simpa using this
    · refine ev_ifn (by simpa using h) ?_
      have := ih acc (a + 1) (by omega) (by omega) (by omega)
      rw [e, if_neg h]; exact this

theorem i_units (n : Int) (hn : n ≤ 1000000) : Ev (fun k => impl_unitsOf.f k n) (unitsL n) := by
  have := i_units_l0 n hn (n + 1 - 1).toNat [] 1 (by omega) rfl (by simp; omega)
  simpa [impl_unitsOf.f, unitsFrom_one] using this

/-! 050_sz -/
theorem szInt_eq (l : List Int) (h : l.length ≤ 9223372036854775807) (a : Int) (ha : 0 ≤ a) (ha1 : a ≤ 9223372036854775807) :
    laws_szInt64S.f l a = some (if a < (l.length : Int) then -1 else a - l.length) := by
  unfold laws_szInt64S.f
  rw [wrap_id (by omega) (by omega)]
  by_cases c : a < (l.length : Int)
  · rw [if_pos (by omega), if_pos c]
  · rw [if_neg (by omega), if_neg c]

/-! 051_szRing -/
theorem szRing_eq (m : Int) (l : List Int) (h : l.length ≤ 9223372036854775807) (a : Int) (ha : 0 ≤ a) (ha1 : a ≤ 9223372036854775807) :
    laws_szRing.f m l a = some (if a < (l.length : Int) then -1 else a - l.length) := by
  unfold laws_szRing.f
  rw [szInt_eq l h a ha ha1, Option.bind_some]
  by_cases c : a < (l.length : Int)
  · rw [if_pos c]; rfl
  · rw [if_neg c, if_neg (by omega)]

/-! 052_toInt -/
theorem toInt_l0 (x : List Int) (hb : x.length ≤ 1048576) : ∀ (d i : Nat) (o : List Int), i + d = x.length → o.length = x.length → o.take i = x.take i →
    Ev (fun k => laws_toInt64S.l0 k x o (i : Int)) x := by
  intro d
  induction d with
  | zero =>
    intro i o hi hl ht
    refine Ev.step (fun k => by rw [laws_toInt64S.l0, if_neg (by omega)]) ?_
    have : o = x := by rw [List.take_of_length_le (by omega), List.take_of_length_le (by omega)] at ht; exact ht
    rw [this]; exact Ev.now _
  | succ d ih =>
    intro i o hi hl ht
    refine Ev.step (fun k => by rw [laws_toInt64S.l0, if_pos (by omega), if_pos (by omega), if_pos (by omega), wrap_idx i (by omega)]) ?_
    refine ih (i + 1) _ (by omega) (by simp; omega) ?_
    have hs : i < (o.set i (rd x i)).length := by simp; omega
    rw [show ((i : Int)).toNat = i from by omega, List.take_succ_eq_append_getElem hs, List.take_succ_eq_append_getElem (by omega : i < x.length), List.getElem_set_self, List.take_set, List.set_eq_of_length_le (by rw [List.length_take]; omega), ht, rd_nat x i (by omega)]

theorem toInt_ev (x : List Int) (hb : x.length ≤ 1048576) : Ev (fun k => laws_toInt64S.f k x) x := by
  unfold laws_toInt64S.f
  refine ev_ifp (by omega) (ev_ifp (by omega) ?_)
  exact toInt_l0 x hb x.length 0 _ (by omega) (by simp) (by simp)

/-! 053_toRing -/
theorem toRing_ev (m : Int) (x : List Int) (hb : x.length ≤ 1048576) : Ev (fun k => laws_toRing.f k m x) (m, x) := by
  unfold laws_toRing.f
  exact Ev.bind (toInt_ev x hb) (Ev.now _)

/-! 054_eqRing -/
theorem eqRing_self (m : Int) (x : List Int) (hb : x.length < 4611686018427387904) : Ev (fun k => laws_eqRing.f k m x m x) true := by
  unfold laws_eqRing.f
  refine ev_ifp rfl (Ev.bind (eq_self x hb) ?_)
  exact ev_ifp rfl (Ev.now _)

/-! 055_markRing -/
theorem markRing_ev (n : Int) (l : List Int) (m : Int) (hm0 : 0 ≤ m) (hm : m + l.length < 4611686018427387904) : Ev (fun k => laws_markRing.f k n l m) (m + l.length, iot m l.length) := by
  unfold laws_markRing.f
  exact Ev.bind (mark_ev l m hm0 hm) (Ev.now _)

/-! 056_heldRing -/
theorem heldRing_ev (x m : Int) (n : Nat) (hm0 : 0 ≤ m) (hm : m + n < 4611686018427387904) : Ev (fun k => laws_heldRing.f k x (iot m n) m) (m + n) := by
  unfold laws_heldRing.f
  refine Ev.bind (held_ev m n hm0 hm) ?_
  exact ev_ifn (by omega) (Ev.now _)

/-! 060_fits -/
theorem fits10_l0 (m : Int) (x : List Int) (hb : x.length < 4611686018427387904) : ∀ (d i : Nat), i + d = x.length →
    Ev (fun k => spec_l10Fits.l0 k (i : Int) m x) (smallL (x.drop i)) := by
  intro d
  induction d with
  | zero =>
    intro i hi
    refine Ev.step (fun k => by rw [spec_l10Fits.l0, if_neg (by omega)]) ?_
    rw [List.drop_of_length_le (by omega)]; exact Ev.now _
  | succ d ih =>
    intro i hi
    refine Ev.step (fun k => by rw [spec_l10Fits.l0, if_pos (by omega), if_pos (by omega), in_eq, Option.bind_some, wrap_idx i (by omega)]) ?_
    rw [drop_at x i (by omega)]
    by_cases h : -1000000000 ≤ rd x i ∧ rd x i ≤ 1000000000
    · refine ev_ifp (by simpa using h) ?_
      have := ih (i + 1) (by omega)
      have e : smallL (rd x i :: x.drop (i + 1)) = smallL (x.drop (i + 1)) := by simp [smallL, h]
      rw [e]; exact this
    · refine ev_ifn (by simpa using h) ?_
      have e : smallL (rd x i :: x.drop (i + 1)) = false := by unfold smallL; rw [List.all_cons, decide_eq_false h]; rfl
      rw [e]; exact Ev.now _
theorem fits10_ev (m : Int) (x : List Int) (hb : x.length < 4611686018427387904) : Ev (fun k => spec_l10Fits.f k m x) (smallL x) := by
  have := fits10_l0 m x hb x.length 0 (by omega)
  simpa [spec_l10Fits.f] using this

/-! 061_is10 -/
theorem is10_ev (m : Int) (x : List Int) (hb : x.length < 4611686018427387904) : Ev (fun k => spec_l10Is.f k m x) (ringB m x) := by
  unfold spec_l10Is.f
  rw [in_eq]
  refine ev_some ?_
  by_cases h : 2 ≤ m ∧ m ≤ 40
  · refine ev_ifp (by simpa using h) (Ev.bind (s_units m (by omega)) ?_)
    by_cases hl : x.length = (unitsL m).length
    · refine ev_ifp (by omega) (Ev.bind (fits10_ev m x hb) ?_)
      have e : ringB m x = smallL x := by simp [ringB, h, hl]
      rw [e]; exact Ev.now _
    · refine ev_ifn (by omega) ?_
      have e : ringB m x = false := by simp [ringB, hl]
      rw [e]; exact Ev.now _
  · refine ev_ifn (by simpa using h) ?_
    have e : ringB m x = false := by unfold ringB; rw [decide_eq_false h]; rfl
    rw [e]; exact Ev.now _

/-! 062_totient -/
theorem totient_l0 (n : Int) (hn : n ≤ 1000000) (d : Nat) : ∀ (c a : Int), 1 ≤ a → (n + 1 - a).toNat = d → 0 ≤ c → c + d ≤ 1000000 →
    Ev (fun k => impl_totient.l0 k n c a) (c + (unitsFrom a n).length) := by
  induction d with
  | zero =>
    intro c a ha hd h0 hl
    refine Ev.step (fun k => by rw [impl_totient.l0, if_neg (by omega)]) ?_
    unfold unitsFrom; rw [upto_nil (by omega)]; simpa using Ev.now c
  | succ d ih =>
    intro c a ha hd h0 hl
    refine Ev.step (fun k => by rw [impl_totient.l0, if_pos (by omega), wrap_id (x := a + 1) (by omega) (by omega), wrap_id (x := c + 1) (by omega) (by omega)]) ?_
    refine Ev.bind (igcd_ev a n (by omega) (by omega) (by omega) (by omega)) ?_
    have e : unitsFrom a n = if (Int.gcd a n : Int) = 1 then a :: unitsFrom (a + 1) n else unitsFrom (a + 1) n := by
      unfold unitsFrom; rw [upto_cons (by omega), List.filter_cons]; simp
    by_cases h : (Int.gcd a n : Int) = 1
    · refine ev_ifp h ?_
      have := ih (c + 1) (a + 1) (by omega) (by omega) (by omega) (by omega)
      rw [e, if_pos h]
      have e2 : c + ((a :: unitsFrom (a + 1) n).length : Int) = c + 1 + ((unitsFrom (a + 1) n).length : Int) := by simp; omega
      rw [e2]; exact this
    · refine ev_ifn h ?_
      have := ih c (a + 1) (by omega) (by omega) h0 (by omega)
      rw [e, if_neg h]; exact this
theorem totient_ev (n : Int) (hn : n ≤ 1000000) (h0 : 0 ≤ n) : Ev (fun k => impl_totient.f k n) ((unitsL n).length : Int) := by
  have := totient_l0 n hn (n + 1 - 1).toNat 0 1 (by omega) rfl (by omega) (by omega)
  simpa [impl_totient.f, unitsFrom_one] using this

/-! 063_areSmall -/
theorem small_eq (x : List Int) : impl_areSmall.f x 1000000000 = some (smallL x) := by
  have e : inB 1000000000 = fun x => decide (-1000000000 ≤ x ∧ x ≤ 1000000000) := by
    funext y; unfold inB; rw [show wrap64 (-1000000000) = -1000000000 from wrap_id (by omega) (by omega)]
  unfold impl_areSmall.f smallL; rw [e]

/-! 064_isRing -/
theorem isRing_ev (m : Int) (x : List Int) : Ev (fun k => impl_IsRing.f k m x) (ringB m x) := by
  unfold impl_IsRing.f
  rw [modulus_eq]
  refine ev_some ?_
  by_cases h : 2 ≤ m ∧ m ≤ 40
  · refine ev_ifp (by simpa using h) (Ev.bind (totient_ev m (by omega) (by omega)) ?_)
    by_cases hl : x.length = (unitsL m).length
    · refine ev_ifp (by omega) ?_
      rw [small_eq]
      have e : ringB m x = smallL x := by simp [ringB, h, hl]
      rw [e]; exact Ev.now _
    · refine ev_ifn (by omega) ?_
      have e : ringB m x = false := by simp [ringB, hl]
      rw [e]; exact Ev.now _
  · refine ev_ifn (by simpa using h) ?_
    have e : ringB m x = false := by unfold ringB; rw [decide_eq_false h]; rfl
    rw [e]; exact Ev.now _

/-! 065_small5 -/
theorem small5_eq (x : List Int) : impl_areSmall.f x 100000 = some (small5 x) := by
  have e : inB 100000 = fun x => decide (-100000 ≤ x ∧ x ≤ 100000) := by
    funext y; unfold inB; rw [show wrap64 (-100000) = -100000 from wrap_id (by omega) (by omega)]
  unfold impl_areSmall.f small5; rw [e]

/-! 082_place -/
theorem place_l0 (l : List Int) (a : Int) (hb : l.length < 4611686018427387904) : ∀ d i : Nat, i + d = l.length → a ∈ l.drop i → Ev (fun k => spec_l10Place.l0 k l a (i : Int)) (((i + (l.drop i).idxOf a : Nat) : Int)) := by
  intro d
  induction d with
  | zero =>
    intro i hi hm
    rw [List.drop_of_length_le (by omega)] at hm; cases hm
  | succ d ih =>
    intro i hi hm
    have hlt : i < l.length := by omega
    refine Ev.step (fun k => by rw [spec_l10Place.l0, if_pos (by omega), if_pos (by omega), wrap_idx i (by omega)]) ?_
    rw [idxOf_drop hlt]
    by_cases h : l[i] = a
    · rw [if_pos h]
      exact ev_ifp (by rw [rd_nat _ _ hlt]; exact h) (Ev.now _)
    · rw [if_neg h]
      have hm2 : a ∈ l.drop (i + 1) := by
        rw [List.drop_eq_getElem_cons hlt] at hm
        rcases List.mem_cons.1 hm with e | e
        · exact absurd e.symm h
        · exact e
      refine ev_ifn (by rw [rd_nat _ _ hlt]; exact h) ?_
      have := ih (i + 1) (by omega) hm2
      rwa [show i + 1 + (l.drop (i + 1)).idxOf a = i + ((l.drop (i + 1)).idxOf a + 1) from by omega] at this
theorem place_ev (l : List Int) (a : Int) (hb : l.length < 4611686018427387904) (hm : a ∈ l) : Ev (fun k => spec_l10Place.f k l a) ((l.idxOf a : Nat) : Int) := by
  have := place_l0 l a hb l.length 0 (by omega) (by simpa using hm)
  simpa [spec_l10Place.f] using this

/-! 083_zero10 -/
theorem zero10_ev (n : Int) (hn : n ≤ 1000000) : Ev (fun k => spec_l10Zero.f k n) (n, List.replicate (unitsL n).length 0) := by
  unfold spec_l10Zero.f
  refine Ev.bind (s_units n hn) ?_
  have := unitsL_length n
  refine ev_ifp (by omega) (ev_ifp (by omega) ?_)
  simpa using Ev.now (n, List.replicate (unitsL n).length (0 : Int))

/-! 088_index -/
theorem sIndex_l0 (l : List Int) (a : Int) (hb : l.length < 4611686018427387904) : ∀ d i : Nat, i + d = l.length → a ∈ l.drop i → Ev (fun k => slices_Index_int64_int64.l0 k l a (l.length : Int) (i : Int)) (((i + (l.drop i).idxOf a : Nat) : Int)) := by
  intro d
  induction d with
  | zero =>
    intro i hi hm
    rw [List.drop_of_length_le (by omega)] at hm; cases hm
  | succ d ih =>
    intro i hi hm
    have hlt : i < l.length := by omega
    refine Ev.step (fun k => by rw [slices_Index_int64_int64.l0, if_pos (by omega), if_pos (by omega), if_pos (by omega), wrap_idx i (by omega)]) ?_
    rw [idxOf_drop hlt]
    by_cases h : l[i] = a
    · rw [if_pos h]
      exact ev_ifp (by rw [rd_nat _ _ hlt]; exact h.symm) (Ev.now _)
    · rw [if_neg h]
      have hm2 : a ∈ l.drop (i + 1) := by
        rw [List.drop_eq_getElem_cons hlt] at hm
        rcases List.mem_cons.1 hm with e | e
        · exact absurd e.symm h
        · exact e
      refine ev_ifn (by rw [rd_nat _ _ hlt]; exact fun z => h z.symm) ?_
      have := ih (i + 1) (by omega) hm2
      rwa [show i + 1 + (l.drop (i + 1)).idxOf a = i + ((l.drop (i + 1)).idxOf a + 1) from by omega] at this
theorem sIndex_ev (l : List Int) (a : Int) (hb : l.length < 4611686018427387904) (hm : a ∈ l) : Ev (fun k => slices_Index_int64_int64.f k l a) ((l.idxOf a : Nat) : Int) := by
  have := sIndex_l0 l a hb l.length 0 (by omega) (by simpa using hm)
  simpa [slices_Index_int64_int64.f] using this

/-! 200_like10 -/
def likeC (m : Int) (x : List Int) (n : Int) (y : List Int) : Int := if ringB m x = true ∧ ringB n y = true then (if m = n then 0 else 2) else 1
theorem like10_ev (m : Int) (x : List Int) (n : Int) (y : List Int) (hx : x.length < 4611686018427387904) (hy : y.length < 4611686018427387904) : Ev (fun k => spec_l10Like.f k m x n y) (likeC m x n y) := by
  unfold spec_l10Like.f likeC
  refine Ev.bind (is10_ev m x hx) ?_
  by_cases h : ringB m x = true
  · refine ev_ifp h (Ev.bind (is10_ev n y hy) ?_)
    by_cases h2 : ringB n y = true
    · rw [if_pos ⟨h, h2⟩, h2]
      refine Ev.step (fun k => by rw [spec_l10Like.j0, if_neg (by simp)]) ?_
      by_cases e : m = n
      · simp only [if_pos e]; exact Ev.now _
      · simp only [if_neg e]; exact Ev.now _
    · rw [if_neg (fun z => h2 z.2), Bool.eq_false_iff.mpr h2]
      exact Ev.step (fun k => by rw [spec_l10Like.j0, if_pos (by simp)]) (Ev.now _)
  · rw [if_neg (fun z => h z.1)]
    refine ev_ifn h ?_
    exact Ev.step (fun k => by rw [spec_l10Like.j0, if_pos rfl]) (Ev.now _)
theorem likeC_zero {m : Int} {x : List Int} {n : Int} {y : List Int} (h : likeC m x n y = 0) : ringB m x = true ∧ ringB n y = true ∧ m = n := by
  unfold likeC at h
  by_cases e : ringB m x = true ∧ ringB n y = true
  · rw [if_pos e] at h
    by_cases e2 : m = n
    · exact ⟨e.1, e.2, e2⟩
    · rw [if_neg e2] at h; cases h
  · rw [if_neg e] at h; cases h

/-! 201_ringCode -/
theorem ringCode_ev (m : Int) (x : List Int) (n : Int) (y : List Int) : Ev (fun k => impl_ringCode.f k m x n y) (likeC m x n y) := by
  unfold impl_ringCode.f likeC
  refine Ev.bind (isRing_ev m x) ?_
  by_cases h : ringB m x = true
  · refine ev_ifp h (Ev.bind (isRing_ev n y) ?_)
    by_cases h2 : ringB n y = true
    · rw [if_pos ⟨h, h2⟩, h2]
      refine Ev.step (fun k => by rw [impl_ringCode.j0, if_neg (by simp)]) ?_
      by_cases e : m = n
      · simp only [if_pos e]; exact Ev.now _
      · simp only [if_neg e]; exact Ev.now _
    · rw [if_neg (fun z => h2 z.2), Bool.eq_false_iff.mpr h2]
      exact Ev.step (fun k => by rw [impl_ringCode.j0, if_pos (by simp)]) (Ev.now _)
  · rw [if_neg (fun z => h z.1)]
    refine ev_ifn h ?_
    exact Ev.step (fun k => by rw [impl_ringCode.j0, if_pos rfl]) (Ev.now _)

/-! 202_told10 -/
def toldR (n : Int) (l : List Int) : Int × List Int × Int := if smallL l = true then (n, l, 0) else (0, [], 3)
theorem toldR_len (n : Int) (l : List Int) : (toldR n l).2.1.length ≤ l.length := by
  unfold toldR; split <;> simp
theorem told10_ev (n : Int) (l : List Int) (hl : l.length < 4611686018427387904) : Ev (fun k => spec_l10Told.f k n l) (toldR n l) := by
  unfold spec_l10Told.f toldR
  refine Ev.bind (fits10_ev n l hl) ?_
  by_cases h : smallL l = true
  · simp only [if_pos h]; exact Ev.now _
  · simp only [if_neg h]; exact Ev.now _

/-! 203_ringOf -/
theorem ringOf_eq (n : Int) (l : List Int) : impl_ringOf.f n l = some (toldR n l) := by
  unfold impl_ringOf.f toldR
  rw [small_eq, Option.bind_some]
  by_cases h : smallL l = true
  · rw [if_pos h, if_pos h]
  · rw [if_neg h, if_neg h]

/-! 211_times10 -/
theorem sTimes_l1 (m : Int) (x : List Int) (n : Int) (y : List Int) (h2 : 2 ≤ m) (h40 : m ≤ 40) (hx : x.length = (unitsL m).length) (hy : y.length = (unitsL m).length) (q : Int) (i : Nat) (hi : i < (unitsL m).length) (r : Int × List Int) :
    ∀ (d j : Nat) (o : List Int), j + d = (unitsL m).length → o.length = (unitsL m).length →
    Ev (fun k => spec_l10Times.l0 k (unitsL m) ((i + 1 : Nat) : Int) m x n y q (mulIn m x y i j d o)) r → Ev (fun k => spec_l10Times.l1 k (unitsL m) (i : Int) (j : Int) m x n y q o) r := by
  have hlen := unitsL_length m
  intro d
  induction d with
  | zero =>
    intro j o hj ho h
    exact Ev.step (fun k => by rw [spec_l10Times.l1, if_neg (by omega), wrap_idx i (by omega)]; rfl) h
  | succ d ih =>
    intro j o hj ho h
    have hjl : j < (unitsL m).length := by omega
    have ha := unit_at hi
    have hb := unit_at hjl
    obtain ⟨p0, p1⟩ := unit_mul h40 ha hb
    have hm := mul_unit h2 h40 ha hb
    have hp : mulPos m i j < (unitsL m).length := List.idxOf_lt_length_of_mem hm
    refine Ev.step (fun k => by rw [spec_l10Times.l1, if_pos (by omega), if_pos (by omega), if_pos (by omega), if_pos (by omega), if_neg (by omega), wrap_idx j (by omega), wrap_id (x := rd (unitsL m) i * rd (unitsL m) j) (by omega) (by omega), Int.tmod_eq_emod_of_nonneg p0]) ?_
    refine Ev.bind (place_ev _ _ (by omega) hm) ?_
    have e : ((unitsL m).idxOf (rd (unitsL m) (i : Int) * rd (unitsL m) (j : Int) % m)) = mulPos m i j := rfl
    rw [e]
    refine ev_ifp (by omega) (ev_ifp (by omega) (ev_ifp (by omega) (ev_ifp (by omega) ?_)))
    rw [Int.toNat_natCast]
    rw [mulIn_succ] at h
    exact ih (j + 1) _ (by omega) (by rw [List.length_set]; exact ho) h
theorem sTimes_l0 (m : Int) (x : List Int) (n : Int) (y : List Int) (h2 : 2 ≤ m) (h40 : m ≤ 40) (hx : x.length = (unitsL m).length) (hy : y.length = (unitsL m).length) (q : Int) :
    ∀ (d i : Nat) (o : List Int), i + d = (unitsL m).length → o.length = (unitsL m).length → Ev (fun k => spec_l10Times.l0 k (unitsL m) (i : Int) m x n y q o) (q, mulOut m x y i d o) := by
  have hlen := unitsL_length m
  intro d
  induction d with
  | zero =>
    intro i o hi ho
    exact Ev.step (fun k => by rw [spec_l10Times.l0, if_neg (by omega)]; rfl) (Ev.now _)
  | succ d ih =>
    intro i o hi ho
    refine Ev.step (fun k => by rw [spec_l10Times.l0, if_pos (by omega)]) ?_
    rw [mulOut_succ]
    exact sTimes_l1 m x n y h2 h40 hx hy q i (by omega) _ (unitsL m).length 0 o (by omega) ho (ih (i + 1) _ (by omega) (by rw [mulIn_length]; exact ho))
theorem sTimes_ev (m : Int) (x : List Int) (n : Int) (y : List Int) (h2 : 2 ≤ m) (h40 : m ≤ 40) (hx : x.length = (unitsL m).length) (hy : y.length = (unitsL m).length) : Ev (fun k => spec_l10Times.f k m x n y) (m, mulL m x y) := by
  unfold spec_l10Times.f
  exact Ev.bind (zero10_ev m (by omega)) (Ev.bind (s_units m (by omega)) (sTimes_l0 m x n y h2 h40 hx hy m (unitsL m).length 0 _ (by omega) (by simp)))

/-! 212_multiply10 -/
theorem iMul_l1 (m : Int) (x : List Int) (n : Int) (y : List Int) (h2 : 2 ≤ m) (h40 : m ≤ 40) (hx : x.length = (unitsL m).length) (hy : y.length = (unitsL m).length) (i : Nat) (hi : i < (unitsL m).length) (r : Int × List Int × Int) :
    ∀ (d j : Nat) (o : List Int), j + d = (unitsL m).length → o.length = (unitsL m).length →
    Ev (fun k => impl_MultiplyRings.l0 k (unitsL m) (mulIn m x y i j d o) (unitsL m) ((unitsL m).length : Int) ((i + 1 : Nat) : Int) m x n y) r →
    Ev (fun k => impl_MultiplyRings.l1 k (unitsL m) o (i : Int) (rd (unitsL m) i) (unitsL m) ((unitsL m).length : Int) (i : Int) (unitsL m) ((unitsL m).length : Int) (j : Int) m x n y) r := by
  have hlen := unitsL_length m
  intro d
  induction d with
  | zero =>
    intro j o hj ho h
    exact Ev.step (fun k => by rw [impl_MultiplyRings.l1, if_neg (by omega), wrap_idx i (by omega)]; rfl) h
  | succ d ih =>
    intro j o hj ho h
    have hjl : j < (unitsL m).length := by omega
    have ha := unit_at hi
    have hb := unit_at hjl
    obtain ⟨p0, p1⟩ := unit_mul h40 ha hb
    have hm := mul_unit h2 h40 ha hb
    have hp : mulPos m i j < (unitsL m).length := List.idxOf_lt_length_of_mem hm
    refine Ev.step (fun k => by rw [impl_MultiplyRings.l1, if_pos (by omega), if_pos (by omega), if_pos (by omega), if_neg (by omega), wrap_idx j (by omega), wrap_id (x := rd (unitsL m) i * rd (unitsL m) j) (by omega) (by omega), Int.tmod_eq_emod_of_nonneg p0]) ?_
    refine Ev.bind (sIndex_ev _ _ (by omega) hm) ?_
    have e : ((unitsL m).idxOf (rd (unitsL m) (i : Int) * rd (unitsL m) (j : Int) % m)) = mulPos m i j := rfl
    rw [e]
    refine ev_ifp (by omega) (ev_ifp (by omega) (ev_ifp (by omega) (ev_ifp (by omega) (ev_ifp (by omega) ?_))))
    rw [Int.toNat_natCast]
    rw [mulIn_succ] at h
    exact ih (j + 1) _ (by omega) (by rw [List.length_set]; exact ho) h
theorem iMul_l0 (m : Int) (x : List Int) (n : Int) (y : List Int) (h2 : 2 ≤ m) (h40 : m ≤ 40) (hx : x.length = (unitsL m).length) (hy : y.length = (unitsL m).length) :
    ∀ (d i : Nat) (o : List Int), i + d = (unitsL m).length → o.length = (unitsL m).length → Ev (fun k => impl_MultiplyRings.l0 k (unitsL m) o (unitsL m) ((unitsL m).length : Int) (i : Int) m x n y) (toldR m (mulOut m x y i d o)) := by
  have hlen := unitsL_length m
  intro d
  induction d with
  | zero =>
    intro i o hi ho
    refine Ev.step (fun k => by rw [impl_MultiplyRings.l0, if_neg (by omega), ringOf_eq]) ?_
    exact Ev.now _
  | succ d ih =>
    intro i o hi ho
    refine Ev.step (fun k => by rw [impl_MultiplyRings.l0, if_pos (by omega), if_pos (by omega), if_pos (by omega)]) ?_
    rw [mulOut_succ]
    exact iMul_l1 m x n y h2 h40 hx hy i (by omega) _ (unitsL m).length 0 o (by omega) ho (ih (i + 1) _ (by omega) (by rw [mulIn_length]; exact ho))
/-- What the reference's check of the sizes comes to. -/
theorem sMul_chk (m : Int) (x : List Int) (n : Int) (y : List Int) (hb : x.length < 4611686018427387904) (hy : y.length = x.length) (r : Int × List Int × Int)
    (h0 : Ev (fun k => (spec_l10Times.f k m x n y).bind fun bt => (spec_l10Told.f k bt.1 bt.2).bind fun b2 => some (b2.1, b2.2.1, b2.2.2)) r) :
    ∀ (d i : Nat), i + d = x.length → Ev (fun k => spec_MultiplyRings.l0 k 0 (i : Int) m x n y) (if small5 (x.drop i) = true ∧ small5 (y.drop i) = true then r else (0, [], 2)) := by
  intro d
  induction d with
  | zero =>
    intro i hi
    rw [List.drop_of_length_le (by omega), List.drop_of_length_le (by omega), if_pos ⟨rfl, rfl⟩]
    refine Ev.step (fun k => by rw [spec_MultiplyRings.l0, if_neg (by omega)]) ?_
    refine Ev.step (fun k => by rw [spec_MultiplyRings.j1, if_neg (by simp), if_pos rfl]) ?_
    exact h0
  | succ d ih =>
    intro i hi
    have bad : Ev (fun k => spec_MultiplyRings.l0 k 2 ((i + 1 : Nat) : Int) m x n y) (0, [], 2) := by
      by_cases e : ((i + 1 : Nat) : Int) < (x.length : Int)
      · refine Ev.step (fun k => by rw [spec_MultiplyRings.l0, if_pos e]) ?_
        exact Ev.step (fun k => by rw [spec_MultiplyRings.j1, if_neg (by simp), if_neg (by omega)]) (Ev.now _)
      · refine Ev.step (fun k => by rw [spec_MultiplyRings.l0, if_neg e]) ?_
        exact Ev.step (fun k => by rw [spec_MultiplyRings.j1, if_neg (by simp), if_neg (by omega)]) (Ev.now _)
    refine Ev.step (fun k => by rw [spec_MultiplyRings.l0, if_pos (by omega)]) ?_
    refine Ev.step (fun k => by rw [spec_MultiplyRings.j1, if_pos (by simp), if_pos (by omega), if_pos (by omega), in_eq, Option.bind_some, wrap_idx i (by omega)]) ?_
    rw [drop_at x i (by omega), drop_at y i (by omega)]
    by_cases hx : -100000 ≤ rd x i ∧ rd x i ≤ 100000
    · refine ev_ifp (by simpa using hx) (ev_ifp (by omega) ?_)
      rw [in_eq]
      refine ev_some ?_
      by_cases hy2 : -100000 ≤ rd y i ∧ rd y i ≤ 100000
      · refine ev_ifp (by simpa using hy2) ?_
        have e1 : small5 (rd x i :: x.drop (i + 1)) = small5 (x.drop (i + 1)) := by simp [small5, hx]
        have e2 : small5 (rd y i :: y.drop (i + 1)) = small5 (y.drop (i + 1)) := by simp [small5, hy2]
        rw [e1, e2]
        exact ih (i + 1) (by omega)
      · refine ev_ifn (by simpa using hy2) ?_
        have e2 : small5 (rd y i :: y.drop (i + 1)) = false := by unfold small5; rw [List.all_cons, decide_eq_false hy2]; rfl
        rw [e2, if_neg (by simp)]
        exact bad
    · refine ev_ifn (by simpa using hx) ?_
      have e1 : small5 (rd x i :: x.drop (i + 1)) = false := by unfold small5; rw [List.all_cons, decide_eq_false hx]; rfl
      rw [e1, if_neg (by simp)]
      exact bad
def mulR (m : Int) (x : List Int) (n : Int) (y : List Int) : Int × List Int × Int :=
  if likeC m x n y = 0 then (if small5 x = true ∧ small5 y = true then toldR m (mulL m x y) else (0, [], 2)) else (0, [], likeC m x n y)
theorem sMul_ev (m : Int) (x : List Int) (n : Int) (y : List Int) (hx : x.length < 4611686018427387904) (hy : y.length < 4611686018427387904) : Ev (fun k => spec_MultiplyRings.f k m x n y) (mulR m x n y) := by
  unfold spec_MultiplyRings.f mulR
  refine Ev.bind (like10_ev m x n y hx hy) ?_
  by_cases h : likeC m x n y = 0
  · rw [h, if_pos rfl]
    obtain ⟨h1, h2, rfl⟩ := likeC_zero h
    obtain ⟨g2, g40, gx, _⟩ := ringB_len h1
    obtain ⟨_, _, gy, _⟩ := ringB_len h2
    have hl := mulL_length m x y
    have := sMul_chk m x m y hx (by omega) (toldR m (mulL m x y)) (Ev.bind (sTimes_ev m x m y g2 g40 gx gy) (Ev.bind (told10_ev m (mulL m x y) (by have := unitsL_length m; omega)) (Ev.now _))) x.length 0 (by omega)
    simpa using this
  · rw [if_neg h]
    by_cases e : (0 : Int) < (x.length : Int)
    · refine Ev.step (fun k => by rw [spec_MultiplyRings.l0, if_pos e]) ?_
      exact Ev.step (fun k => by rw [spec_MultiplyRings.j1, if_neg (by simpa using h), if_neg h]) (Ev.now _)
    · refine Ev.step (fun k => by rw [spec_MultiplyRings.l0, if_neg e]) ?_
      exact Ev.step (fun k => by rw [spec_MultiplyRings.j1, if_neg (by simp), if_neg h]) (Ev.now _)
theorem iMul_ev (m : Int) (x : List Int) (n : Int) (y : List Int) : Ev (fun k => impl_MultiplyRings.f k m x n y) (mulR m x n y) := by
  unfold impl_MultiplyRings.f mulR
  refine Ev.bind (ringCode_ev m x n y) ?_
  by_cases h : likeC m x n y = 0
  · rw [if_pos h]
    refine ev_ifp h ?_
    obtain ⟨h1, h2, rfl⟩ := likeC_zero h
    obtain ⟨g2, g40, gx, _⟩ := ringB_len h1
    obtain ⟨_, _, gy, _⟩ := ringB_len h2
    have := unitsL_length m
    rw [small5_eq, small5_eq]
    refine ev_some ?_
    by_cases hx : small5 x = true
    · refine ev_ifp hx (ev_some ?_)
      by_cases hy : small5 y = true
      · rw [if_pos ⟨hx, hy⟩]
        refine Ev.step (fun k => by rw [impl_MultiplyRings.j0, if_neg (by simpa using hy)]) ?_
        refine Ev.bind (i_units m (by omega)) (ev_ifp (by omega) (ev_ifp (by omega) ?_))
        rw [Int.toNat_natCast]
        exact iMul_l0 m x m y g2 g40 gx gy (unitsL m).length 0 _ (by omega) (by simp)
      · rw [if_neg (fun z => hy z.2)]
        exact Ev.step (fun k => by rw [impl_MultiplyRings.j0, if_pos (by simpa using hy)]) (Ev.now _)
    · rw [if_neg (fun z => hx z.1)]
      refine ev_ifn hx ?_
      exact Ev.step (fun k => by rw [impl_MultiplyRings.j0, if_pos rfl]) (Ev.now _)
  · rw [if_neg h]
    exact ev_ifn h (Ev.now _)
theorem mulR_len (m : Int) (x : List Int) (n : Int) (y : List Int) : (mulR m x n y).2.1.length ≤ 1000 := by
  unfold mulR
  by_cases h : likeC m x n y = 0
  · rw [if_pos h]
    obtain ⟨h1, _, _⟩ := likeC_zero h
    obtain ⟨g2, g40, _, _⟩ := ringB_len h1
    have := unitsL_length m
    split
    · refine Nat.le_trans (toldR_len _ _) ?_
      rw [mulL_length]; omega
    · simp
  · rw [if_neg h]; simp

end Go.Proofs.Ythkdkiifchefhaa.FnExactMultiplyRingsQ
