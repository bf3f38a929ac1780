/- Facts on what the printed functions answer. -/
import Derived.Test.YthkdkiifchefhaaPlInv
import Derived.Test.YthkdkiifchefhaaPlLists
import Derived.Test.YthkdkiifchefhaaPFnExactTurnRingx
set_option linter.unusedVariables false
set_option linter.unusedSimpArgs false
namespace Go.Proofs.Ythkdkiifchefhaa.FnExactTurnRingQ
open Go.RowKit Go.Proofs.Ythkdkiifchefhaa.PFnExactTurnRing Go.Proofs.Ythkdkiifchefhaa.Plain Go.Proofs.YthkdkiifchefhaaW.PrintWords Go.Proofs.YthkdkiifchefhaaW.PrintLast Go.Proofs.YthkdkiifchefhaaW.PrintMore

/-! 010_eq -/
theorem eq_l0 (x y : List Int) (hl : x.length = y.length) (hb : x.length < 4611686018427387904) : ∀ d i : Nat, i + d = x.length →
    Ev (fun k => laws_eqInt64S.l0 k x y (i : Int)) (decide (x.drop i = y.drop i)) := by
  intro d
  induction d with
  | zero =>
    intro i hi
    refine Ev.step (fun k => by rw [laws_eqInt64S.l0, if_neg (by omega)]) ?_
    rw [List.drop_of_length_le (by omega), List.drop_of_length_le (by omega)]
    exact Ev.now _
  | succ d ih =>
    intro i hi
    refine Ev.step (fun k => by rw [laws_eqInt64S.l0, if_pos (by omega), if_pos (by omega), if_pos (by omega), wrap_idx i (by omega)]) ?_
    rw [drop_at x i (by omega), drop_at y i (by omega)]
    by_cases h : rd x i = rd y i
    · refine ev_ifp h ?_
      have := ih (i + 1) (by omega)
      simpa [h] using this
    · refine ev_ifn h ?_
      have : decide (rd x (i:Int) :: x.drop (i + 1) = rd y (i:Int) :: y.drop (i + 1)) = false := by simp [h]
      rw [this]
      exact Ev.now _

theorem eq_ev (x y : List Int) (hb : x.length < 4611686018427387904) : Ev (fun k => laws_eqInt64S.f k x y) (decide (x = y)) := by
  by_cases hl : x.length = y.length
  · refine Ev.congr (fun k => by rw [laws_eqInt64S.f, if_pos (by omega)]) ?_
    have := eq_l0 x y hl hb x.length 0 (by omega)
    simpa using this
  · refine Ev.congr (fun k => by rw [laws_eqInt64S.f, if_neg (by omega)]) ?_
    have : decide (x = y) = false := by simp; intro h; exact hl (by rw [h])
    rw [this]
    exact Ev.now _

theorem eq_self (x : List Int) (hb : x.length < 4611686018427387904) : Ev (fun k => laws_eqInt64S.f k x x) true := by
  have := eq_ev x x hb
  simpa using this

/-! 011_mark -/
theorem mark_l0 (d : Nat) : ∀ (l : List Int) (m : Int) (i : Nat), i + d = l.length → l.length < 4611686018427387904 → 0 ≤ m → m + d < 4611686018427387904 →
    Ev (fun k => laws_markInt64S.l0 k l m (i : Int)) (m + d, l.take i ++ iot m d) := by
  induction d with
  | zero =>
    intro l m i hi hb h0 hm
    refine Ev.step (fun k => by rw [laws_markInt64S.l0, if_neg (by omega)]) ?_
    have e : l.take i ++ iot m 0 = l := by simp only [iot, List.append_nil]; exact List.take_of_length_le (by omega)
    rw [e]; simpa using Ev.now (m, l)
  | succ d ih =>
    intro l m i hi hb h0 hm
    refine Ev.step (fun k => by rw [laws_markInt64S.l0, if_pos (by omega), if_pos (by omega), wrap_idx i (by omega), wrap_id (x := m + 1) (by omega) (by omega)]) ?_
    have := ih (l.set i m) (m + 1) (i + 1) (by simp; omega) (by simp; omega) (by omega) (by omega)
    have e : (l.set i m).take (i + 1) ++ iot (m + 1) d = l.take i ++ iot m (d + 1) := by
      have hs : i < (l.set i m).length := by simp; omega
      rw [List.take_succ_eq_append_getElem hs]
      simp only [List.getElem_set_self, iot, List.append_assoc, List.singleton_append]
      rw [List.take_set, List.set_eq_of_length_le (by rw [List.length_take]; omega)]
    rw [e] at this
    have e2 : m + 1 + (d : Int) = m + ((d + 1 : Nat) : Int) := by omega
    rw [e2] at this
    simpa using this

theorem mark_ev (l : List Int) (m : Int) (hm0 : 0 ≤ m) (hm : m + l.length < 4611686018427387904) : Ev (fun k => laws_markInt64S.f k l m) (m + l.length, iot m l.length) := by
  have := mark_l0 l.length l m 0 (by omega) (by omega) hm0 (by omega)
  simpa [laws_markInt64S.f] using this

/-! 012_held -/
theorem held_l0 (d : Nat) : ∀ (l : List Int) (m : Int) (i : Nat), i + d = l.length → l.length < 4611686018427387904 → l.drop i = iot m d → 0 ≤ m → m + d < 4611686018427387904 →
    Ev (fun k => laws_heldInt64S.l0 k l m (i : Int)) (m + d) := by
  induction d with
  | zero =>
    intro l m i hi hb hd h0 hm
    refine Ev.step (fun k => by rw [laws_heldInt64S.l0, if_neg (by omega)]) ?_
    simpa using Ev.now m
  | succ d ih =>
    intro l m i hi hb hd h0 hm
    rw [drop_at l i (by omega)] at hd
    simp only [iot, List.cons.injEq] at hd
    refine Ev.step (fun k => by rw [laws_heldInt64S.l0, if_pos (by omega), if_pos (by omega), if_pos hd.1, wrap_idx i (by omega), wrap_id (x := m + 1) (by omega) (by omega)]) ?_
    have := ih l (m + 1) (i + 1) (by omega) hb hd.2 (by omega) (by omega)
    have e2 : m + 1 + (d : Int) = m + ((d + 1 : Nat) : Int) := by omega
    rw [e2] at this
    exact this

theorem held_ev (m : Int) (n : Nat) (hm0 : 0 ≤ m) (hm : m + n < 4611686018427387904) : Ev (fun k => laws_heldInt64S.f k (iot m n) m) (m + n) := by
  have := held_l0 n (iot m n) m 0 (by simp [iot_length]) (by simp [iot_length]; omega) (by simp) hm0 hm
  simpa [laws_heldInt64S.f] using this

/-! 020_in -/
theorem in_eq (a b c : Int) : spec_l01In.f a b c = some (decide (b ≤ a ∧ a ≤ c)) := by
  unfold spec_l01In.f
  by_cases h : a ≥ b
  · rw [if_pos h]; simp [show b ≤ a from h]
  · rw [if_neg h]; simp [show ¬ b ≤ a from h]

/-! 021_within -/
theorem within_eq (a b c : Int) : impl_within.f a b c = some (decide (b ≤ a ∧ a ≤ c)) := by
  unfold impl_within.f
  by_cases h : b ≤ a
  · rw [if_pos h]; simp [h]
  · rw [if_neg h]; simp [h]

/-! 022_modulus -/
theorem modulus_eq (m : Int) : impl_isModulus.f m = some (decide (2 ≤ m ∧ m ≤ 40)) := by
  unfold impl_isModulus.f; rw [within_eq]; rfl

/-! 030_sgcd -/
theorem sgcd_l0 (n : Nat) : ∀ (a b : Int), 0 ≤ a → 0 ≤ b → b.toNat ≤ n → a ≤ 9223372036854775807 → b ≤ 9223372036854775807 →
    Ev (fun k => spec_l01Gcd.l0 k a b) ((Int.gcd a b : Nat) : Int) := by
  induction n with
  | zero =>
    intro a b ha hb hn hm hbm
    obtain rfl : b = 0 := by omega
    refine Ev.step (fun k => by rw [spec_l01Gcd.l0, if_pos rfl]) ?_
    have : mx a (wrap64 (-a)) = ((Int.gcd a 0 : Nat) : Int) := by
      rw [wrap_id (by omega) (by omega)]; unfold mx; simp; split <;> omega
    rw [this]; exact Ev.now _
  | succ n ih =>
    intro a b ha hb hn hm hbm
    by_cases h : b = 0
    · exact (ih a b ha hb (by omega) hm hbm)
    · refine Ev.step (fun k => by rw [spec_l01Gcd.l0, if_neg h]) ?_
      have h0 : 0 < b := by omega
      have hr : Int.tmod a b = a % b := Int.tmod_eq_emod_of_nonneg ha
      have h1 := Int.emod_nonneg a h
      have h2 := Int.emod_lt_of_pos a h0
      have := ih b (Int.tmod a b) hb (by rw [hr]; exact h1) (by rw [hr]; omega) hbm (by rw [hr]; omega)
      rwa [gcd_tmod a b ha h0] at this

theorem sgcd_ev (a b : Int) (ha : 0 ≤ a) (hb : 0 ≤ b) (hm : a ≤ 9223372036854775807) (hbm : b ≤ 9223372036854775807) :
    Ev (fun k => spec_l01Gcd.f k a b) ((Int.gcd a b : Nat) : Int) := sgcd_l0 b.toNat a b ha hb (Nat.le_refl _) hm hbm

/-! 031_igcd -/
theorem size_abs (a : Int) (h : -9223372036854775807 ≤ a) (h1 : a ≤ 9223372036854775807) : mx a (wrap64 (-a)) = (a.natAbs : Int) := by
  rw [wrap_id (by omega) (by omega)]; unfold mx; split <;> omega

theorem igcd_l0 (n : Nat) : ∀ (a b : Int), 0 ≤ a → 0 ≤ b → b.toNat ≤ n →
    Ev (fun k => impl_gcd.l0 k a b) ((Int.gcd a b : Nat) : Int) := by
  induction n with
  | zero =>
    intro a b ha hb hn
    obtain rfl : b = 0 := by omega
    refine Ev.step (fun k => by rw [impl_gcd.l0, if_neg (by omega)]) ?_
    have : a = ((Int.gcd a 0 : Nat) : Int) := by simp; omega
    conv => rhs; rw [← this]
    exact Ev.now _
  | succ n ih =>
    intro a b ha hb hn
    by_cases h : b = 0
    · exact (ih a b ha hb (by omega))
    · have h0 : 0 < b := by omega
      refine Ev.step (fun k => by rw [impl_gcd.l0, if_pos h0, if_neg h]) ?_
      have hr : Int.tmod a b = a % b := Int.tmod_eq_emod_of_nonneg ha
      have h1 := Int.emod_nonneg a h
      have h2 := Int.emod_lt_of_pos a h0
      have := ih b (Int.tmod a b) hb (by rw [hr]; exact h1) (by rw [hr]; omega)
      rwa [gcd_tmod a b ha h0] at this

theorem igcd_ev (a b : Int) (ha : -9223372036854775807 ≤ a) (hb : -9223372036854775807 ≤ b) (ha1 : a ≤ 9223372036854775807) (hb1 : b ≤ 9223372036854775807) :
    Ev (fun k => impl_gcd.f k a b) ((Int.gcd a b : Nat) : Int) := by
  unfold impl_gcd.f impl_size.f
  refine ev_some (ev_some ?_)
  rw [size_abs a ha ha1, size_abs b hb hb1]
  have := igcd_l0 b.natAbs (a.natAbs : Int) (b.natAbs : Int) (by omega) (by omega) (by omega)
  have e : Int.gcd (a.natAbs : Int) (b.natAbs : Int) = Int.gcd a b := by simp [Int.gcd]
  rwa [e] at this

/-! 040_primeto -/
theorem prime_to_ev (a n : Int) (h0 : 1 ≤ a) (h1 : a ≤ n) (hn : n ≤ 9223372036854775807) : Ev (fun k => impl_isPrimeTo.f k a n) (decide ((Int.gcd a n : Int) = 1)) := by
  unfold impl_isPrimeTo.f
  rw [within_eq]
  refine ev_some ?_
  refine ev_ifp (by simp; omega) ?_
  refine Ev.bind (igcd_ev a n (by omega) (by omega) (by omega) hn) ?_
  exact Ev.now _

/-! 041_sunits -/
theorem s_units_l0 (n : Int) (hn : n ≤ 1000000) (d : Nat) : ∀ (acc : List Int) (a : Int), 1 ≤ a → (n + 1 - a).toNat = d → acc.length + d ≤ 1000000 →
    Ev (fun k => spec_l10Residues.l0 k n acc a) (acc ++ unitsFrom a n) := by
  induction d with
  | zero =>
    intro acc a ha hd hl
    refine Ev.step (fun k => by rw [spec_l10Residues.l0, if_neg (by omega)]) ?_
    unfold unitsFrom; rw [upto_nil (by omega)]; simpa using Ev.now acc
  | succ d ih =>
    intro acc a ha hd hl
    refine Ev.step (fun k => by rw [spec_l10Residues.l0, if_pos (by omega), wrap_id (x := a + 1) (by omega) (by omega)]) ?_
    refine Ev.bind (sgcd_ev a n (by omega) (by omega) (by omega) (by omega)) ?_
    have e : unitsFrom a n = if (Int.gcd a n : Int) = 1 then a :: unitsFrom (a + 1) n else unitsFrom (a + 1) n := by
      unfold unitsFrom; rw [upto_cons (by omega), List.filter_cons]; simp
    by_cases h : (Int.gcd a n : Int) = 1
    · refine ev_ifp h (ev_ifp (by omega) ?_)
      have := ih (acc ++ [a]) (a + 1) (by omega) (by omega) (by simp; omega)
      rw [e, if_pos h]; simpa using this
    · refine ev_ifn h ?_
      have := ih acc (a + 1) (by omega) (by omega) (by omega)
      rw [e, if_neg h]; exact this

theorem s_units (n : Int) (hn : n ≤ 1000000) : Ev (fun k => spec_l10Residues.f k n) (unitsL n) := by
  have := s_units_l0 n hn (n + 1 - 1).toNat [] 1 (by omega) rfl (by simp; omega)
  simpa [spec_l10Residues.f, unitsFrom_one] using this

/-! 042_iunits -/
theorem i_units_l0 (n : Int) (hn : n ≤ 1000000) (d : Nat) : ∀ (acc : List Int) (a : Int), 1 ≤ a → (n + 1 - a).toNat = d → acc.length + d ≤ 1000000 →
    Ev (fun k => impl_unitsOf.l0 k n acc a) (acc ++ unitsFrom a n) := by
  induction d with
  | zero =>
    intro acc a ha hd hl
    refine Ev.step (fun k => by rw [impl_unitsOf.l0, if_neg (by omega)]) ?_
    unfold unitsFrom; rw [upto_nil (by omega)]; simpa using Ev.now acc
  | succ d ih =>
    intro acc a ha hd hl
    refine Ev.step (fun k => by rw [impl_unitsOf.l0, if_pos (by omega), wrap_id (x := a + 1) (by omega) (by omega)]) ?_
    refine Ev.bind (prime_to_ev a n (by omega) (by omega) (by omega)) ?_
    have e : unitsFrom a n = if (Int.gcd a n : Int) = 1 then a :: unitsFrom (a + 1) n else unitsFrom (a + 1) n := by
      unfold unitsFrom; rw [upto_cons (by omega), List.filter_cons]; simp
    by_cases h : (Int.gcd a n : Int) = 1
    · refine ev_ifp (by simpa using h) (ev_ifp (by omega) ?_)
      have := ih (acc ++ [a]) (a + 1) (by omega) (by omega) (by simp; omega)
      rw [e, if_pos h]; simpa using this
    · refine ev_ifn (by simpa using h) ?_
      have := ih acc (a + 1) (by omega) (by omega) (by omega)
      rw [e, if_neg h]; exact this

theorem i_units (n : Int) (hn : n ≤ 1000000) : Ev (fun k => impl_unitsOf.f k n) (unitsL n) := by
  have := i_units_l0 n hn (n + 1 - 1).toNat [] 1 (by omega) rfl (by simp; omega)
  simpa [impl_unitsOf.f, unitsFrom_one] using this

/-! 050_sz -/
theorem szInt_eq (l : List Int) (h : l.length ≤ 9223372036854775807) (a : Int) (ha : 0 ≤ a) (ha1 : a ≤ 9223372036854775807) :
    laws_szInt64S.f l a = some (if a < (l.length : Int) then -1 else a - l.length) := by
  unfold laws_szInt64S.f
  rw [wrap_id (by omega) (by omega)]
  by_cases c : a < (l.length : Int)
  · rw [if_pos (by omega), if_pos c]
  · rw [if_neg (by omega), if_neg c]

/-! 051_szRing -/
theorem szRing_eq (m : Int) (l : List Int) (h : l.length ≤ 9223372036854775807) (a : Int) (ha : 0 ≤ a) (ha1 : a ≤ 9223372036854775807) :
    laws_szRing.f m l a = some (if a < (l.length : Int) then -1 else a - l.length) := by
  unfold laws_szRing.f
  rw [szInt_eq l h a ha ha1, Option.bind_some]
  by_cases c : a < (l.length : Int)
  · rw [if_pos c]; rfl
  · rw [if_neg c, if_neg (by omega)]

/-! 052_toInt -/
theorem toInt_l0 (x : List Int) (hb : x.length ≤ 1048576) : ∀ (d i : Nat) (o : List Int), i + d = x.length → o.length = x.length → o.take i = x.take i →
    Ev (fun k => laws_toInt64S.l0 k x o (i : Int)) x := by
  intro d
  induction d with
  | zero =>
    intro i o hi hl ht
    refine Ev.step (fun k => by rw [laws_toInt64S.l0, if_neg (by omega)]) ?_
    have : o = x := by rw [List.take_of_length_le (by omega), List.take_of_length_le (by omega)] at ht; exact ht
    rw [this]; exact Ev.now _
  | succ d ih =>
    intro i o hi hl ht
    refine Ev.step (fun k => by rw [laws_toInt64S.l0, if_pos (by omega), if_pos (by omega), if_pos (by omega), wrap_idx i (by omega)]) ?_
    refine ih (i + 1) _ (by omega) (by simp; omega) ?_
    have hs : i < (o.set i (rd x i)).length := by simp; omega
    rw [show ((i : Int)).toNat = i from by omega, List.take_succ_eq_append_getElem hs, List.take_succ_eq_append_getElem (by omega : i < x.length), List.getElem_set_self, List.take_set, List.set_eq_of_length_le (by rw [List.length_take]; omega), ht, rd_nat x i (by omega)]

theorem toInt_ev (x : List Int) (hb : x.length ≤ 1048576) : Ev (fun k => laws_toInt64S.f k x) x := by
  unfold laws_toInt64S.f
  refine ev_ifp (by omega) (ev_ifp (by omega) ?_)
  exact toInt_l0 x hb x.length 0 _ (by omega) (by simp) (by simp)

/-! 053_toRing -/
theorem toRing_ev (m : Int) (x : List Int) (hb : x.length ≤ 1048576) : Ev (fun k => laws_toRing.f k m x) (m, x) := by
  unfold laws_toRing.f
  exact Ev.bind (toInt_ev x hb) (Ev.now _)

/-! 054_eqRing -/
theorem eqRing_self (m : Int) (x : List Int) (hb : x.length < 4611686018427387904) : Ev (fun k => laws_eqRing.f k m x m x) true := by
  unfold laws_eqRing.f
  refine ev_ifp rfl (Ev.bind (eq_self x hb) ?_)
  exact ev_ifp rfl (Ev.now _)

/-! 055_markRing -/
theorem markRing_ev (n : Int) (l : List Int) (m : Int) (hm0 : 0 ≤ m) (hm : m + l.length < 4611686018427387904) : Ev (fun k => laws_markRing.f k n l m) (m + l.length, iot m l.length) := by
  unfold laws_markRing.f
  exact Ev.bind (mark_ev l m hm0 hm) (Ev.now _)

/-! 056_heldRing -/
theorem heldRing_ev (x m : Int) (n : Nat) (hm0 : 0 ≤ m) (hm : m + n < 4611686018427387904) : Ev (fun k => laws_heldRing.f k x (iot m n) m) (m + n) := by
  unfold laws_heldRing.f
  refine Ev.bind (held_ev m n hm0 hm) ?_
  exact ev_ifn (by omega) (Ev.now _)

/-! 060_fits -/
theorem fits10_l0 (m : Int) (x : List Int) (hb : x.length < 4611686018427387904) : ∀ (d i : Nat), i + d = x.length →
    Ev (fun k => spec_l10Fits.l0 k (i : Int) m x) (smallL (x.drop i)) := by
  intro d
  induction d with
  | zero =>
    intro i hi
    refine Ev.step (fun k => by rw [spec_l10Fits.l0, if_neg (by omega)]) ?_
    rw [List.drop_of_length_le (by omega)]; exact Ev.now _
  | succ d ih =>
    intro i hi
    refine Ev.step (fun k => by rw [spec_l10Fits.l0, if_pos (by omega), if_pos (by omega), in_eq, Option.bind_some, wrap_idx i (by omega)]) ?_
    rw [drop_at x i (by omega)]
    by_cases h : -1000000000 ≤ rd x i ∧ rd x i ≤ 1000000000
    · refine ev_ifp (by simpa using h) ?_
      have := ih (i + 1) (by omega)
      have e : smallL (rd x i :: x.drop (i + 1)) = smallL (x.drop (i + 1)) := by simp [smallL, h]
      rw [e]; exact this
    · refine ev_ifn (by simpa using h) ?_
      have e : smallL (rd x i :: x.drop (i + 1)) = false := by unfold smallL; rw [List.all_cons, decide_eq_false h]; rfl
      rw [e]; exact Ev.now _
theorem fits10_ev (m : Int) (x : List Int) (hb : x.length < 4611686018427387904) : Ev (fun k => spec_l10Fits.f k m x) (smallL x) := by
  have := fits10_l0 m x hb x.length 0 (by omega)
  simpa [spec_l10Fits.f] using this

/-! 061_is10 -/
theorem is10_ev (m : Int) (x : List Int) (hb : x.length < 4611686018427387904) : Ev (fun k => spec_l10Is.f k m x) (ringB m x) := by
  unfold spec_l10Is.f
  rw [in_eq]
  refine ev_some ?_
  by_cases h : 2 ≤ m ∧ m ≤ 40
  · refine ev_ifp (by simpa using h) (Ev.bind (s_units m (by omega)) ?_)
    by_cases hl : x.length = (unitsL m).length
    · refine ev_ifp (by omega) (Ev.bind (fits10_ev m x hb) ?_)
      have e : ringB m x = smallL x := by simp [ringB, h, hl]
      rw [e]; exact Ev.now _
    · refine ev_ifn (by omega) ?_
      have e : ringB m x = false := by simp [ringB, hl]
      rw [e]; exact Ev.now _
  · refine ev_ifn (by simpa using h) ?_
    have e : ringB m x = false := by unfold ringB; rw [decide_eq_false h]; rfl
    rw [e]; exact Ev.now _

/-! 062_totient -/
theorem totient_l0 (n : Int) (hn : n ≤ 1000000) (d : Nat) : ∀ (c a : Int), 1 ≤ a → (n + 1 - a).toNat = d → 0 ≤ c → c + d ≤ 1000000 →
    Ev (fun k => impl_totient.l0 k n c a) (c + (unitsFrom a n).length) := by
  induction d with
  | zero =>
    intro c a ha hd h0 hl
    refine Ev.step (fun k => by rw [impl_totient.l0, if_neg (by omega)]) ?_
    unfold unitsFrom; rw [upto_nil (by omega)]; simpa using Ev.now c
  | succ d ih =>
    intro c a ha hd h0 hl
    refine Ev.step (fun k => by rw [impl_totient.l0, if_pos (by omega), wrap_id (x := a + 1) (by omega) (by omega), wrap_id (x := c + 1) (by omega) (by omega)]) ?_
    refine Ev.bind (igcd_ev a n (by omega) (by omega) (by omega) (by omega)) ?_
    have e : unitsFrom a n = if (Int.gcd a n : Int) = 1 then a :: unitsFrom (a + 1) n else unitsFrom (a + 1) n := by
      unfold unitsFrom; rw [upto_cons (by omega), List.filter_cons]; simp
    by_cases h : (Int.gcd a n : Int) = 1
    · refine ev_ifp h ?_
      have := ih (c + 1) (a + 1) (by omega) (by omega) (by omega) (by omega)
      rw [e, if_pos h]
      have e2 : c + ((a :: unitsFrom (a + 1) n).length : Int) = c + 1 + ((unitsFrom (a + 1) n).length : Int) := by simp; omega
      rw [e2]; exact this
    · refine ev_ifn h ?_
      have := ih c (a + 1) (by omega) (by omega) h0 (by omega)
      rw [e, if_neg h]; exact this
theorem totient_ev (n : Int) (hn : n ≤ 1000000) (h0 : 0 ≤ n) : Ev (fun k => impl_totient.f k n) ((unitsL n).length : Int) := by
  have := totient_l0 n hn (n + 1 - 1).toNat 0 1 (by omega) rfl (by omega) (by omega)
  simpa [impl_totient.f, unitsFrom_one] using this

/-! 063_areSmall -/
theorem small_eq (x : List Int) : impl_areSmall.f x 1000000000 = some (smallL x) := by
  have e : inB 1000000000 = fun x => decide (-1000000000 ≤ x ∧ x ≤ 1000000000) := by
    funext y; unfold inB; rw [show wrap64 (-1000000000) = -1000000000 from wrap_id (by omega) (by omega)]
  unfold impl_areSmall.f smallL; rw [e]

/-! 064_isRing -/
theorem isRing_ev (m : Int) (x : List Int) : Ev (fun k => impl_IsRing.f k m x) (ringB m x) := by
  unfold impl_IsRing.f
  rw [modulus_eq]
  refine ev_some ?_
  by_cases h : 2 ≤ m ∧ m ≤ 40
  · refine ev_ifp (by simpa using h) (Ev.bind (totient_ev m (by omega) (by omega)) ?_)
    by_cases hl : x.length = (unitsL m).length
    · refine ev_ifp (by omega) ?_
      rw [small_eq]
      have e : ringB m x = smallL x := by simp [ringB, h, hl]
      rw [e]; exact Ev.now _
    · refine ev_ifn (by omega) ?_
      have e : ringB m x = false := by simp [ringB, hl]
      rw [e]; exact Ev.now _
  · refine ev_ifn (by simpa using h) ?_
    have e : ringB m x = false := by unfold ringB; rw [decide_eq_false h]; rfl
    rw [e]; exact Ev.now _

/-! 080_sinverse -/
theorem sInv_l0 (n a : Int) (h2 : 2 ≤ n) (h40 : n ≤ 40) (ha : 1 ≤ a) (han : a ≤ n) (d : Nat) : ∀ b : Int, 1 ≤ b → b ≤ n → (n - b).toNat = d → Ev (fun k => spec_l10Inverse.l0 k n a b) ((invFrom n a b).getD 1) := by
  induction d with
  | zero =>
    intro b hb hbn hd
    refine Ev.step (fun k => by rw [spec_l10Inverse.l0, if_neg (by omega)]) ?_
    rw [invFrom_end (by omega)]; exact Ev.now _
  | succ d ih =>
    intro b hb hbn hd
    have hab : 0 ≤ a * b := Int.mul_nonneg (by omega) (by omega)
    have hab2 : a * b ≤ 40 * 40 := Int.mul_le_mul (by omega) (by omega) (by omega) (by omega)
    refine Ev.step (fun k => by rw [spec_l10Inverse.l0, if_pos (by omega), if_neg (by omega), wrap_id (x := a * b) (by omega) (by omega), Int.tmod_eq_emod_of_nonneg hab, wrap_id (x := b + 1) (by omega) (by omega)]) ?_
    by_cases h : a * b % n = 1
    · rw [invFrom_hit (by omega) h]; exact ev_ifp h (Ev.now _)
    · rw [invFrom_miss (by omega) h]; exact ev_ifn h (ih (b + 1) (by omega) (by omega) (by omega))
theorem sInv_ev (n a : Int) (h2 : 2 ≤ n) (h40 : n ≤ 40) (ha : 1 ≤ a) (han : a ≤ n) : Ev (fun k => spec_l10Inverse.f k n a) (invOf n a) :=
  sInv_l0 n a h2 h40 ha han _ 1 (by omega) (by omega) rfl

/-! 081_iinverse -/
theorem iInv_l0 (n a : Int) (h2 : 2 ≤ n) (h40 : n ≤ 40) (ha : 1 ≤ a) (han : a ≤ n) (d : Nat) : ∀ b : Int, 1 ≤ b → (n - b).toNat = d → (invFrom n a b).isSome = true → Ev (fun k => impl_inverse.l0 k n a b) ((invFrom n a b).getD 1) := by
  induction d with
  | zero =>
    intro b hb hd hs
    rw [invFrom_end (by omega)] at hs; cases hs
  | succ d ih =>
    intro b hb hd hs
    have hab : 0 ≤ a * b := Int.mul_nonneg (by omega) (by omega)
    have hab2 : a * b ≤ 40 * 40 := Int.mul_le_mul (by omega) (by omega) (by omega) (by omega)
    refine Ev.step (fun k => by rw [impl_inverse.l0, if_neg (by omega), wrap_id (x := a * b) (by omega) (by omega), Int.tmod_eq_emod_of_nonneg hab, wrap_id (x := b + 1) (by omega) (by omega)]) ?_
    by_cases h : a * b % n = 1
    · rw [invFrom_hit (by omega) h]; exact ev_ifp h (Ev.now _)
    · rw [invFrom_miss (by omega) h] at hs ⊢; exact ev_ifn h (ih (b + 1) (by omega) (by omega) hs)
theorem iInv_ev (n a : Int) (h2 : 2 ≤ n) (h40 : n ≤ 40) (ha : a ∈ unitsL n) : Ev (fun k => impl_inverse.f k n a) (invOf n a) :=
  iInv_l0 n a h2 h40 (unit_range ha).1 (unit_range ha).2.1 _ 1 (by omega) rfl (inv_facts h2 h40 ha).1

/-! 082_place -/
theorem place_l0 (l : List Int) (a : Int) (hb : l.length < 4611686018427387904) : ∀ d i : Nat, i + d = l.length → a ∈ l.drop i → Ev (fun k => spec_l10Place.l0 k l a (i : Int)) (((i + (l.drop i).idxOf a : Nat) : Int)) := by
  intro d
  induction d with
  | zero =>
    intro i hi hm
    rw [List.drop_of_length_le (by omega)] at hm; cases hm
  | succ d ih =>
    intro i hi hm
    have hlt : i < l.length := by omega
    refine Ev.step (fun k => by rw [spec_l10Place.l0, if_pos (by omega), if_pos (by omega), wrap_idx i (by omega)]) ?_
    rw [idxOf_drop hlt]
    by_cases h : l[i] = a
    · rw [if_pos h]
      exact ev_ifp (by rw [rd_nat _ _ hlt]; exact h) (Ev.now _)
    · rw [if_neg h]
      have hm2 : a ∈ l.drop (i + 1) := by
        rw [List.drop_eq_getElem_cons hlt] at hm
        rcases List.mem_cons.1 hm with e | e
        · exact absurd e.symm h
        · exact e
      refine ev_ifn (by rw [rd_nat _ _ hlt]; exact h) ?_
      have := ih (i + 1) (by omega) hm2
      rwa [show i + 1 + (l.drop (i + 1)).idxOf a = i + ((l.drop (i + 1)).idxOf a + 1) from by omega] at this
theorem place_ev (l : List Int) (a : Int) (hb : l.length < 4611686018427387904) (hm : a ∈ l) : Ev (fun k => spec_l10Place.f k l a) ((l.idxOf a : Nat) : Int) := by
  have := place_l0 l a hb l.length 0 (by omega) (by simpa using hm)
  simpa [spec_l10Place.f] using this

/-! 083_zero10 -/
theorem zero10_ev (n : Int) (hn : n ≤ 1000000) : Ev (fun k => spec_l10Zero.f k n) (n, List.replicate (unitsL n).length 0) := by
  unfold spec_l10Zero.f
  refine Ev.bind (s_units n hn) ?_
  have := unitsL_length n
  refine ev_ifp (by omega) (ev_ifp (by omega) ?_)
  simpa using Ev.now (n, List.replicate (unitsL n).length (0 : Int))

/-! 084_turned -/
theorem turned_l0 (n : Int) (h2 : 2 ≤ n) (h40 : n ≤ 40) (pf : Int → Option Int) (g : Int → Int) (hg : ∀ b ∈ unitsL n, pf (invOf n b) = some (g b)) :
    ∀ (d i : Nat) (acc : List Int), i + d = (unitsL n).length → acc.length = i →
    Ev (fun k => impl_turnedRing.l0 pf k n (unitsL n) ((unitsL n).length : Int) (i : Int) n acc) (n, acc ++ ((unitsL n).drop i).map g) := by
  have hlen := unitsL_length n
  intro d
  induction d with
  | zero =>
    intro i acc hi ha
    refine Ev.step (fun k => by rw [impl_turnedRing.l0, if_neg (by omega)]) ?_
    rw [List.drop_of_length_le (by omega)]; simpa using Ev.now (n, acc)
  | succ d ih =>
    intro i acc hi ha
    have hlt : i < (unitsL n).length := by omega
    have hm : rd (unitsL n) i ∈ unitsL n := by rw [rd_nat _ _ hlt]; exact List.getElem_mem hlt
    refine Ev.step (fun k => by rw [impl_turnedRing.l0, if_pos (by omega), if_pos (by omega), if_pos (by omega), wrap_idx i (by omega)]) ?_
    refine Ev.bind (iInv_ev n _ h2 h40 hm) ?_
    rw [hg _ hm]
    refine ev_some (ev_ifp (by omega) ?_)
    have := ih (i + 1) (acc ++ [g (rd (unitsL n) i)]) (by omega) (by simp; omega)
    rw [drop_at _ i hlt]
    simpa using this
theorem turned_ev (n : Int) (h2 : 2 ≤ n) (h40 : n ≤ 40) (pf : Int → Option Int) (g : Int → Int) (hg : ∀ b ∈ unitsL n, pf (invOf n b) = some (g b)) :
    Ev (fun k => impl_turnedRing.f pf k n) (n, (unitsL n).map g) := by
  unfold impl_turnedRing.f
  refine Ev.bind (i_units n (by omega)) ?_
  have := turned_l0 n h2 h40 pf g hg (unitsL n).length 0 [] (by omega) rfl
  simpa using this

/-! 087_turn -/
theorem idxL_mem (a : Int) (l : List Int) : ∀ i : Nat, a ∈ l → idxL a i l = ((i + l.idxOf a : Nat) : Int) := by
  induction l with
  | nil => intro i h; cases h
  | cons x l ih =>
    intro i h
    unfold idxL
    rw [List.idxOf_cons]
    by_cases e : a = x
    · rw [if_pos e, e]; simp
    · rw [if_neg e, beq_false_of_ne (fun h => e h.symm)]
      rcases List.mem_cons.1 h with h | h
      · exact absurd h e
      · rw [ih (i + 1) h]; simp only [cond_false]; omega
def turnG (n : Int) (x : List Int) (b : Int) : Int := rd x ((unitsL n).idxOf (invOf n b) : Nat)
theorem turnPart_some {n : Int} {x : List Int} (h2 : 2 ≤ n) (h40 : n ≤ 40) (hx : x.length = (unitsL n).length) (b : Int) (hb : b ∈ unitsL n) : turnPart x (unitsL n) (invOf n b) = some (turnG n x b) := by
  have hm := (inv_facts h2 h40 hb).2.2.1
  have hlt := List.idxOf_lt_length_of_mem hm
  unfold turnPart
  rw [idxL_mem _ _ 0 hm, Nat.zero_add, if_pos (by omega), if_pos (by omega)]
  rfl
theorem sTurn_l0 (n : Int) (x : List Int) (h2 : 2 ≤ n) (h40 : n ≤ 40) (hx : x.length = (unitsL n).length) (m0 : Int) : ∀ (d i : Nat) (o : List Int), i + d = (unitsL n).length → o.length = (unitsL n).length → o.take i = ((unitsL n).take i).map (turnG n x) →
    Ev (fun k => spec_TurnRing.l0 k (unitsL n) (i : Int) n x m0 o) (m0, (unitsL n).map (turnG n x), 0) := by
  have hlen := unitsL_length n
  intro d
  induction d with
  | zero =>
    intro i o hi ho ht
    refine Ev.step (fun k => by rw [spec_TurnRing.l0, if_neg (by omega)]) ?_
    rw [List.take_of_length_le (by omega), List.take_of_length_le (by omega)] at ht
    rw [ht]; exact Ev.now _
  | succ d ih =>
    intro i o hi ho ht
    have hlt : i < (unitsL n).length := by omega
    have hm : rd (unitsL n) i ∈ unitsL n := by rw [rd_nat _ _ hlt]; exact List.getElem_mem hlt
    obtain ⟨p1, p2, p3⟩ := invPos_facts h2 h40 i hlt
    refine Ev.step (fun k => by rw [spec_TurnRing.l0, if_pos (by omega), if_pos (by omega), wrap_idx i (by omega)]) ?_
    refine Ev.bind (sInv_ev n _ h2 h40 (unit_range hm).1 (unit_range hm).2.1) ?_
    refine Ev.bind (place_ev _ _ (by omega) (inv_facts h2 h40 hm).2.2.1) ?_
    have e : ((unitsL n).idxOf (invOf n (rd (unitsL n) (i : Int)))) = invPos n i := rfl
    rw [e]
    refine ev_ifp (by omega) (ev_ifp (by omega) (ev_ifp (by omega) ?_))
    refine ih (i + 1) _ (by omega) (by simpa using ho) ?_
    rw [Int.toNat_natCast]
    have hs : i < (o.set i (rd x ((invPos n i : Nat) : Int))).length := by simp; omega
    rw [List.take_succ_eq_append_getElem hs, List.take_succ_eq_append_getElem hlt, List.getElem_set_self, List.take_set, List.set_eq_of_length_le (by rw [List.length_take]; omega), ht, List.map_append]
    congr 1
    rw [← rd_nat _ _ hlt]; rfl
def turnR (n : Int) (x : List Int) : Int × List Int × Int := if ringB n x = true then (n, (unitsL n).map (turnG n x), 0) else (0, [], 1)
theorem sTurn_ev (n : Int) (x : List Int) (hb : x.length < 4611686018427387904) : Ev (fun k => spec_TurnRing.f k n x) (turnR n x) := by
  unfold spec_TurnRing.f turnR
  refine Ev.bind (is10_ev n x hb) ?_
  by_cases h : ringB n x = true
  · obtain ⟨h2, h40, hx, _⟩ := ringB_len h
    rw [if_pos h]
    refine ev_ifp h (Ev.bind (zero10_ev n (by omega)) (Ev.bind (s_units n (by omega)) ?_))
    exact sTurn_l0 n x h2 h40 hx n (unitsL n).length 0 _ (by omega) (by simp) (by simp)
  · rw [if_neg h]; exact ev_ifn h (Ev.now _)
theorem iTurn_ev (n : Int) (x : List Int) : Ev (fun k => impl_TurnRing.f k n x) (turnR n x) := by
  unfold impl_TurnRing.f turnR
  refine Ev.bind (isRing_ev n x) ?_
  by_cases h : ringB n x = true
  · obtain ⟨h2, h40, hx, _⟩ := ringB_len h
    rw [if_pos h]
    refine ev_ifp h (Ev.bind (i_units n (by omega)) (Ev.bind (turned_ev n h2 h40 _ (turnG n x) (fun b hb => turnPart_some h2 h40 hx b hb)) ?_))
    exact Ev.now _
  · rw [if_neg h]; exact ev_ifn h (Ev.now _)
theorem turnR_len (n : Int) (x : List Int) : (turnR n x).2.1.length ≤ 1000 := by
  unfold turnR
  by_cases h : ringB n x = true
  · rw [if_pos h]
    obtain ⟨h2, h40, hx, _⟩ := ringB_len h
    have := unitsL_length n
    rw [List.length_map]; omega
  · rw [if_neg h]; simp

end Go.Proofs.Ythkdkiifchefhaa.FnExactTurnRingQ
