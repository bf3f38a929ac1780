/- Facts on what the printed functions answer. -/
import Derived.Test.YtdnpkbhapdkikaaZPlCyc
import Derived.Test.YtdnpkbhapdkikaaZPlLists
import Derived.Test.YtdnpkbhapdkikaaZPlMul
import Derived.Test.YtdnpkbhapdkikaaZPFnExactActOnCyclox
set_option linter.unusedVariables false
set_option linter.unusedSimpArgs false
namespace Go.Proofs.Ytdnpkbhapdkikaa.FnExactActOnCycloQ
open Go.RowKit Go.Proofs.Ytdnpkbhapdkikaa.PFnExactActOnCyclo Go.Proofs.Ytdnpkbhapdkikaa.Plain Go.Proofs.YtdnpkbhapdkikaaW.PrintWords Go.Proofs.YtdnpkbhapdkikaaW.PrintLast Go.Proofs.YtdnpkbhapdkikaaW.PrintMore

/-! 010_eq -/
theorem eq_l0 (x y : List Int) (hl : x.length = y.length) (hb : x.length < 4611686018427387904) : ∀ d i : Nat, i + d = x.length →
    Ev (fun k => laws_eqInt64S.l0 k x y (i : Int)) (decide (x.drop i = y.drop i)) := by
  intro d
  induction d with
  | zero =>
    intro i hi
    refine Ev.step (fun k => by rw [laws_eqInt64S.l0, if_neg (by omega)]) ?_
    rw [List.drop_of_length_le (by omega), List.drop_of_length_le (by omega)]
    exact Ev.now _
  | succ d ih =>
    intro i hi
    refine Ev.step (fun k => by rw [laws_eqInt64S.l0, if_pos (by omega), if_pos (by omega), if_pos (by omega), wrap_idx i (by omega)]) ?_
    rw [drop_at x i (by omega), drop_at y i (by omega)]
    by_cases h : rd x i = rd y i
    · refine ev_ifp h ?_
      have := ih (i + 1) (by omega)
      simpa [h] using this
    · refine ev_ifn h ?_
      have : decide (rd x (i:Int) :: x.drop (i + 1) = rd y (i:Int) :: y.drop (i + 1)) = false := by simp [h]
      rw [this]
      exact Ev.now _

theorem eq_ev (x y : List Int) (hb : x.length < 4611686018427387904) : Ev (fun k => laws_eqInt64S.f k x y) (decide (x = y)) := by
  by_cases hl : x.length = y.length
  · refine Ev.congr (fun k => by rw [laws_eqInt64S.f, if_pos (by omega)]) ?_
    have := eq_l0 x y hl hb x.length 0 (by omega)
    simpa using this
  · refine Ev.congr (fun k => by rw [laws_eqInt64S.f, if_neg (by omega)]) ?_
    have : decide (x = y) = false := by simp; intro h; exact hl (by rw [h])
    rw [this]
    exact Ev.now _

theorem eq_self (x : List Int) (hb : x.length < 4611686018427387904) : Ev (fun k => laws_eqInt64S.f k x x) true := by
  have := eq_ev x x hb
  simpa using this

/-! 011_mark -/
theorem mark_l0 (d : Nat) : ∀ (l : List Int) (m : Int) (i : Nat), i + d = l.length → l.length < 4611686018427387904 → 0 ≤ m → m + d < 4611686018427387904 →
    Ev (fun k => laws_markInt64S.l0 k l m (i : Int)) (m + d, l.take i ++ iot m d) := by
  induction d with
  | zero =>
    intro l m i hi hb h0 hm
    refine Ev.step (fun k => by rw [laws_markInt64S.l0, if_neg (by omega)]) ?_
    have e : l.take i ++ iot m 0 = l := by simp only [iot, List.append_nil]; exact List.take_of_length_le (by omega)
    rw [e]; simpa using Ev.now (m, l)
  | succ d ih =>
    intro l m i hi hb h0 hm
    refine Ev.step (fun k => by rw [laws_markInt64S.l0, if_pos (by omega), if_pos (by omega), wrap_idx i (by omega), wrap_id (x := m + 1) (by omega) (by omega)]) ?_
    have := ih (l.set i m) (m + 1) (i + 1) (by simp; omega) (by simp; omega) (by omega) (by omega)
    have e : (l.set i m).take (i + 1) ++ iot (m + 1) d = l.take i ++ iot m (d + 1) := by
      have hs : i < (l.set i m).length := by simp; omega
      rw [List.take_succ_eq_append_getElem hs]
      simp only [List.getElem_set_self, iot, List.append_assoc, List.singleton_append]
      rw [List.take_set, List.set_eq_of_length_le (by rw [List.length_take]; omega)]
    rw [e] at this
    have e2 : m + 1 + (d : Int) = m + ((d + 1 : Nat) : Int) := by omega
    rw [e2] at this
    simpa using this

theorem mark_ev (l : List Int) (m : Int) (hm0 : 0 ≤ m) (hm : m + l.length < 4611686018427387904) : Ev (fun k => laws_markInt64S.f k l m) (m + l.length, iot m l.length) := by
  have := mark_l0 l.length l m 0 (by omega) (by omega) hm0 (by omega)
  simpa [laws_markInt64S.f] using this

/-! 012_held -/
theorem held_l0 (d : Nat) : ∀ (l : List Int) (m : Int) (i : Nat), i + d = l.length → l.length < 4611686018427387904 → l.drop i = iot m d → 0 ≤ m → m + d < 4611686018427387904 →
    Ev (fun k => laws_heldInt64S.l0 k l m (i : Int)) (m + d) := by
  induction d with
  | zero =>
    intro l m i hi hb hd h0 hm
    refine Ev.step (fun k => by rw [laws_heldInt64S.l0, if_neg (by omega)]) ?_
    simpa using Ev.now m
  | succ d ih =>
    intro l m i hi hb hd h0 hm
    rw [drop_at l i (by omega)] at hd
    simp only [iot, List.cons.injEq] at hd
    refine Ev.step (fun k => by rw [laws_heldInt64S.l0, if_pos (by omega), if_pos (by omega), if_pos hd.1, wrap_idx i (by omega), wrap_id (x := m + 1) (by omega) (by omega)]) ?_
    have := ih l (m + 1) (i + 1) (by omega) hb hd.2 (by omega) (by omega)
    have e2 : m + 1 + (d : Int) = m + ((d + 1 : Nat) : Int) := by omega
    rw [e2] at this
    exact this

theorem held_ev (m : Int) (n : Nat) (hm0 : 0 ≤ m) (hm : m + n < 4611686018427387904) : Ev (fun k => laws_heldInt64S.f k (iot m n) m) (m + n) := by
  have := held_l0 n (iot m n) m 0 (by simp [iot_length]) (by simp [iot_length]; omega) (by simp) hm0 hm
  simpa [laws_heldInt64S.f] using this

/-! 020_in -/
theorem in_eq (a b c : Int) : spec_l01In.f a b c = some (decide (b ≤ a ∧ a ≤ c)) := by
  unfold spec_l01In.f
  by_cases h : a ≥ b
  · rw [if_pos h]; simp [show b ≤ a from h]
  · rw [if_neg h]; simp [show ¬ b ≤ a from h]

/-! 021_within -/
theorem within_eq (a b c : Int) : impl_within.f a b c = some (decide (b ≤ a ∧ a ≤ c)) := by
  unfold impl_within.f
  by_cases h : b ≤ a
  · rw [if_pos h]; simp [h]
  · rw [if_neg h]; simp [h]

/-! 022_modulus -/
theorem modulus_eq (m : Int) : impl_isModulus.f m = some (decide (2 ≤ m ∧ m ≤ 40)) := by
  unfold impl_isModulus.f; rw [within_eq]; rfl

/-! 023_order -/
theorem order_eq (m : Int) : impl_isOrder.f m = some (decide (1 ≤ m ∧ m ≤ 16)) := by
  unfold impl_isOrder.f; rw [within_eq]; rfl

/-! 030_sgcd -/
theorem sgcd_l0 (n : Nat) : ∀ (a b : Int), 0 ≤ a → 0 ≤ b → b.toNat ≤ n → a ≤ 9223372036854775807 → b ≤ 9223372036854775807 →
    Ev (fun k => spec_l01Gcd.l0 k a b) ((Int.gcd a b : Nat) : Int) := by
  induction n with
  | zero =>
    intro a b ha hb hn hm hbm
    obtain rfl : b = 0 := by omega
    refine Ev.step (fun k => by rw [spec_l01Gcd.l0, if_pos rfl]) ?_
    have : mx a (wrap64 (-a)) = ((Int.gcd a 0 : Nat) : Int) := by
      rw [wrap_id (by omega) (by omega)]; unfold mx; simp; split <;> omega
    rw [this]; exact Ev.now _
  | succ n ih =>
    intro a b ha hb hn hm hbm
    by_cases h : b = 0
    · exact (ih a b ha hb (by omega) hm hbm)
    · refine Ev.step (fun k => by rw [spec_l01Gcd.l0, if_neg h]) ?_
      have h0 : 0 < b := by omega
      have hr : Int.tmod a b = a % b := Int.tmod_eq_emod_of_nonneg ha
      have h1 := Int.emod_nonneg a h
      have h2 := Int.emod_lt_of_pos a h0
      have := ih b (Int.tmod a b) hb (by rw [hr]; exact h1) (by rw [hr]; omega) hbm (by rw [hr]; omega)
      rwa [gcd_tmod a b ha h0] at this

theorem sgcd_ev (a b : Int) (ha : 0 ≤ a) (hb : 0 ≤ b) (hm : a ≤ 9223372036854775807) (hbm : b ≤ 9223372036854775807) :
    Ev (fun k => spec_l01Gcd.f k a b) ((Int.gcd a b : Nat) : Int) := sgcd_l0 b.toNat a b ha hb (Nat.le_refl _) hm hbm

/-! 031_igcd -/
theorem size_abs (a : Int) (h : -9223372036854775807 ≤ a) (h1 : a ≤ 9223372036854775807) : mx a (wrap64 (-a)) = (a.natAbs : Int) := by
  rw [wrap_id (by omega) (by omega)]; unfold mx; split <;> omega

theorem igcd_l0 (n : Nat) : ∀ (a b : Int), 0 ≤ a → 0 ≤ b → b.toNat ≤ n →
    Ev (fun k => impl_gcd.l0 k a b) ((Int.gcd a b : Nat) : Int) := by
  induction n with
  | zero =>
    intro a b ha hb hn
    obtain rfl : b = 0 := by omega
    refine Ev.step (fun k => by rw [impl_gcd.l0, if_neg (by omega)]) ?_
    have : a = ((Int.gcd a 0 : Nat) : Int) := by simp; omega
    conv => rhs; rw [← this]
    exact Ev.now _
  | succ n ih =>
    intro a b ha hb hn
    by_cases h : b = 0
    · exact (ih a b ha hb (by omega))
    · have h0 : 0 < b := by omega
      refine Ev.step (fun k => by rw [impl_gcd.l0, if_pos h0, if_neg h]) ?_
      have hr : Int.tmod a b = a % b := Int.tmod_eq_emod_of_nonneg ha
      have h1 := Int.emod_nonneg a h
      have h2 := Int.emod_lt_of_pos a h0
      have := ih b (Int.tmod a b) hb (by rw [hr]; exact h1) (by rw [hr]; omega)
      rwa [gcd_tmod a b ha h0] at this

theorem igcd_ev (a b : Int) (ha : -9223372036854775807 ≤ a) (hb : -9223372036854775807 ≤ b) (ha1 : a ≤ 9223372036854775807) (hb1 : b ≤ 9223372036854775807) :
    Ev (fun k => impl_gcd.f k a b) ((Int.gcd a b : Nat) : Int) := by
  unfold impl_gcd.f impl_size.f
  refine ev_some (ev_some ?_)
  rw [size_abs a ha ha1, size_abs b hb hb1]
  have := igcd_l0 b.natAbs (a.natAbs : Int) (b.natAbs : Int) (by omega) (by omega) (by omega)
  have e : Int.gcd (a.natAbs : Int) (b.natAbs : Int) = Int.gcd a b := by simp [Int.gcd]
  rwa [e] at this

/-! 040_primeto -/
theorem prime_to_ev (a n : Int) (h0 : 1 ≤ a) (h1 : a ≤ n) (hn : n ≤ 9223372036854775807) : Ev (fun k => impl_isPrimeTo.f k a n) (decide ((Int.gcd a n : Int) = 1)) := by
  unfold impl_isPrimeTo.f
  rw [within_eq]
  refine ev_some ?_
  refine ev_ifp (by simp; omega) ?_
  refine Ev.bind (igcd_ev a n (by omega) (by omega) (by omega) hn) ?_
  exact Ev.now _

/-! 041_sunits -/
theorem s_units_l0 (n : Int) (hn : n ≤ 1000000) (d : Nat) : ∀ (acc : List Int) (a : Int), 1 ≤ a → (n + 1 - a).toNat = d → acc.length + d ≤ 1000000 →
    Ev (fun k => spec_l10Residues.l0 k n acc a) (acc ++ unitsFrom a n) := by
  induction d with
  | zero =>
    intro acc a ha hd hl
    refine Ev.step (fun k => by rw [spec_l10Residues.l0, if_neg (by omega)]) ?_
    unfold unitsFrom; rw [upto_nil (by omega)]; simpa using Ev.now acc
  | succ d ih =>
    intro acc a ha hd hl
    refine Ev.step (fun k => by rw [spec_l10Residues.l0, if_pos (by omega), wrap_id (x := a + 1) (by omega) (by omega)]) ?_
    refine Ev.bind (sgcd_ev a n (by omega) (by omega) (by omega) (by omega)) ?_
    have e : unitsFrom a n = if (Int.gcd a n : Int) = 1 then a :: unitsFrom (a + 1) n else unitsFrom (a + 1) n := by
      unfold unitsFrom; rw [upto_cons (by omega), List.filter_cons]; simp
    by_cases h : (Int.gcd a n : Int) = 1
    · refine ev_ifp h (ev_ifp (by omega) ?_)
      have := ih (acc ++ [a]) (a + 1) (by omega) (by omega) (by simp; omega)
      rw [e, if_pos h]; simpa using this
    · refine ev_ifn h ?_
      have := ih acc (a + 1) (by omega) (by omega) (by omega)
      rw [e, if_neg h]; exact this

theorem s_units (n : Int) (hn : n ≤ 1000000) : Ev (fun k => spec_l10Residues.f k n) (unitsL n) := by
  have := s_units_l0 n hn (n + 1 - 1).toNat [] 1 (by omega) rfl (by simp; omega)
  simpa [spec_l10Residues.f, unitsFrom_one] using this

/-! 042_iunits -/
theorem i_units_l0 (n : Int) (hn : n ≤ 1000000) (d : Nat) : ∀ (acc : List Int) (a : Int), 1 ≤ a → (n + 1 - a).toNat = d → acc.length + d ≤ 1000000 →
    Ev (fun k => impl_unitsOf.l0 k n acc a) (acc ++ unitsFrom a n) := by
  induction d with
  | zero =>
    intro acc a ha hd hl
    refine Ev.step (fun k => by rw [impl_unitsOf.l0, if_neg (by omega)]) ?_
    unfold unitsFrom; rw [upto_nil (by omega)]; simpa using Ev.now acc
  | succ d ih =>
    intro acc a ha hd hl
    refine Ev.step (fun k => by rw [impl_unitsOf.l0, if_pos (by omega), wrap_id (x := a + 1) (by omega) (by omega)]) ?_
    refine Ev.bind (prime_to_ev a n (by omega) (by omega) (by omega)) ?_
    have e : unitsFrom a n = if (Int.gcd a n : Int) = 1 then a :: unitsFrom (a + 1) n else unitsFrom (a + 1) n := by
      unfold unitsFrom; rw [upto_cons (by omega), List.filter_cons]; simp
    by_cases h : (Int.gcd a n : Int) = 1
    · refine ev_ifp (by simpa using h) (ev_ifp (by omega) ?_)
      have := ih (acc ++ [a]) (a + 1) (by omega) (by omega) (by simp; omega)
      rw [e, if_pos h]; simpa using this
    · refine ev_ifn (by simpa using h) ?_
      have := ih acc (a + 1) (by omega) (by omega) (by omega)
      rw [e, if_neg h]; exact this

theorem i_units (n : Int) (hn : n ≤ 1000000) : Ev (fun k => impl_unitsOf.f k n) (unitsL n) := by
  have := i_units_l0 n hn (n + 1 - 1).toNat [] 1 (by omega) rfl (by simp; omega)
  simpa [impl_unitsOf.f, unitsFrom_one] using this

/-! 050_sz -/
theorem szInt_eq (l : List Int) (h : l.length ≤ 9223372036854775807) (a : Int) (ha : 0 ≤ a) (ha1 : a ≤ 9223372036854775807) :
    laws_szInt64S.f l a = some (if a < (l.length : Int) then -1 else a - l.length) := by
  unfold laws_szInt64S.f
  rw [wrap_id (by omega) (by omega)]
  by_cases c : a < (l.length : Int)
  · rw [if_pos (by omega), if_pos c]
  · rw [if_neg (by omega), if_neg c]

/-! 051_szRing -/
theorem szRing_eq (m : Int) (l : List Int) (h : l.length ≤ 9223372036854775807) (a : Int) (ha : 0 ≤ a) (ha1 : a ≤ 9223372036854775807) :
    laws_szRing.f m l a = some (if a < (l.length : Int) then -1 else a - l.length) := by
  unfold laws_szRing.f
  rw [szInt_eq l h a ha ha1, Option.bind_some]
  by_cases c : a < (l.length : Int)
  · rw [if_pos c]; rfl
  · rw [if_neg c, if_neg (by omega)]

/-! 052_toInt -/
theorem toInt_l0 (x : List Int) (hb : x.length ≤ 1048576) : ∀ (d i : Nat) (o : List Int), i + d = x.length → o.length = x.length → o.take i = x.take i →
    Ev (fun k => laws_toInt64S.l0 k x o (i : Int)) x := by
  intro d
  induction d with
  | zero =>
    intro i o hi hl ht
    refine Ev.step (fun k => by rw [laws_toInt64S.l0, if_neg (by omega)]) ?_
    have : o = x := by rw [List.take_of_length_le (by omega), List.take_of_length_le (by omega)] at ht; exact ht
    rw [this]; exact Ev.now _
  | succ d ih =>
    intro i o hi hl ht
    refine Ev.step (fun k => by rw [laws_toInt64S.l0, if_pos (by omega), if_pos (by omega), if_pos (by omega), wrap_idx i (by omega)]) ?_
    refine ih (i + 1) _ (by omega) (by simp; omega) ?_
    have hs : i < (o.set i (rd x i)).length := by simp; omega
    rw [show ((i : Int)).toNat = i from by omega, List.take_succ_eq_append_getElem hs, List.take_succ_eq_append_getElem (by omega : i < x.length), List.getElem_set_self, List.take_set, List.set_eq_of_length_le (by rw [List.length_take]; omega), ht, rd_nat x i (by omega)]

theorem toInt_ev (x : List Int) (hb : x.length ≤ 1048576) : Ev (fun k => laws_toInt64S.f k x) x := by
  unfold laws_toInt64S.f
  refine ev_ifp (by omega) (ev_ifp (by omega) ?_)
  exact toInt_l0 x hb x.length 0 _ (by omega) (by simp) (by simp)

/-! 053_toRing -/
theorem toRing_ev (m : Int) (x : List Int) (hb : x.length ≤ 1048576) : Ev (fun k => laws_toRing.f k m x) (m, x) := by
  unfold laws_toRing.f
  exact Ev.bind (toInt_ev x hb) (Ev.now _)

/-! 054_eqRing -/
theorem eqRing_self (m : Int) (x : List Int) (hb : x.length < 4611686018427387904) : Ev (fun k => laws_eqRing.f k m x m x) true := by
  unfold laws_eqRing.f
  refine ev_ifp rfl (Ev.bind (eq_self x hb) ?_)
  exact ev_ifp rfl (Ev.now _)

/-! 055_markRing -/
theorem markRing_ev (n : Int) (l : List Int) (m : Int) (hm0 : 0 ≤ m) (hm : m + l.length < 4611686018427387904) : Ev (fun k => laws_markRing.f k n l m) (m + l.length, iot m l.length) := by
  unfold laws_markRing.f
  exact Ev.bind (mark_ev l m hm0 hm) (Ev.now _)

/-! 060_fits -/
theorem fits10_l0 (m : Int) (x : List Int) (hb : x.length < 4611686018427387904) : ∀ (d i : Nat), i + d = x.length →
    Ev (fun k => spec_l10Fits.l0 k (i : Int) m x) (smallL (x.drop i)) := by
  intro d
  induction d with
  | zero =>
    intro i hi
    refine Ev.step (fun k => by rw [spec_l10Fits.l0, if_neg (by omega)]) ?_
    rw [List.drop_of_length_le (by omega)]; exact Ev.now _
  | succ d ih =>
    intro i hi
    refine Ev.step (fun k => by rw [spec_l10Fits.l0, if_pos (by omega), if_pos (by omega), in_eq, Option.bind_some, wrap_idx i (by omega)]) ?_
    rw [drop_at x i (by omega)]
    by_cases h : -1000000000 ≤ rd x i ∧ rd x i ≤ 1000000000
    · refine ev_ifp (by simpa using h) ?_
      have := ih (i + 1) (by omega)
      have e : smallL (rd x i :: x.drop (i + 1)) = smallL (x.drop (i + 1)) := by simp [smallL, h]
      rw [e]; exact this
    · refine ev_ifn (by simpa using h) ?_
      have e : smallL (rd x i :: x.drop (i + 1)) = false := by unfold smallL; rw [List.all_cons, decide_eq_false h]; rfl
      rw [e]; exact Ev.now _
theorem fits10_ev (m : Int) (x : List Int) (hb : x.length < 4611686018427387904) : Ev (fun k => spec_l10Fits.f k m x) (smallL x) := by
  have := fits10_l0 m x hb x.length 0 (by omega)
  simpa [spec_l10Fits.f] using this

/-! 061_is10 -/
theorem is10_ev (m : Int) (x : List Int) (hb : x.length < 4611686018427387904) : Ev (fun k => spec_l10Is.f k m x) (ringB m x) := by
  unfold spec_l10Is.f
  rw [in_eq]
  refine ev_some ?_
  by_cases h : 2 ≤ m ∧ m ≤ 40
  · refine ev_ifp (by simpa using h) (Ev.bind (s_units m (by omega)) ?_)
    by_cases hl : x.length = (unitsL m).length
    · refine ev_ifp (by omega) (Ev.bind (fits10_ev m x hb) ?_)
      have e : ringB m x = smallL x := by simp [ringB, h, hl]
      rw [e]; exact Ev.now _
    · refine ev_ifn (by omega) ?_
      have e : ringB m x = false := by simp [ringB, hl]
      rw [e]; exact Ev.now _
  · refine ev_ifn (by simpa using h) ?_
    have e : ringB m x = false := by unfold ringB; rw [decide_eq_false h]; rfl
    rw [e]; exact Ev.now _

/-! 062_totient -/
theorem totient_l0 (n : Int) (hn : n ≤ 1000000) (d : Nat) : ∀ (c a : Int), 1 ≤ a → (n + 1 - a).toNat = d → 0 ≤ c → c + d ≤ 1000000 →
    Ev (fun k => impl_totient.l0 k n c a) (c + (unitsFrom a n).length) := by
  induction d with
  | zero =>
    intro c a ha hd h0 hl
    refine Ev.step (fun k => by rw [impl_totient.l0, if_neg (by omega)]) ?_
    unfold unitsFrom; rw [upto_nil (by omega)]; simpa using Ev.now c
  | succ d ih =>
    intro c a ha hd h0 hl
    refine Ev.step (fun k => by rw [impl_totient.l0, if_pos (by omega), wrap_id (x := a + 1) (by omega) (by omega), wrap_id (x := c + 1) (by omega) (by omega)]) ?_
    refine Ev.bind (igcd_ev a n (by omega) (by omega) (by omega) (by omega)) ?_
    have e : unitsFrom a n = if (Int.gcd a n : Int) = 1 then a :: unitsFrom (a + 1) n else unitsFrom (a + 1) n := by
      unfold unitsFrom; rw [upto_cons (by omega), List.filter_cons]; simp
    by_cases h : (Int.gcd a n : Int) = 1
    · refine ev_ifp h ?_
      have := ih (c + 1) (a + 1) (by omega) (by omega) (by omega) (by omega)
      rw [e, if_pos h]
      have e2 : c + ((a :: unitsFrom (a + 1) n).length : Int) = c + 1 + ((unitsFrom (a + 1) n).length : Int) := by simp; omega
      rw [e2]; exact this
    · refine ev_ifn h ?_
      have := ih c (a + 1) (by omega) (by omega) h0 (by omega)
      rw [e, if_neg h]; exact this
theorem totient_ev (n : Int) (hn : n ≤ 1000000) (h0 : 0 ≤ n) : Ev (fun k => impl_totient.f k n) ((unitsL n).length : Int) := by
  have := totient_l0 n hn (n + 1 - 1).toNat 0 1 (by omega) rfl (by omega) (by omega)
  simpa [impl_totient.f, unitsFrom_one] using this

/-! 063_areSmall -/
theorem small_eq (x : List Int) : impl_areSmall.f x 1000000000 = some (smallL x) := by
  have e : inB 1000000000 = fun x => decide (-1000000000 ≤ x ∧ x ≤ 1000000000) := by
    funext y; unfold inB; rw [show wrap64 (-1000000000) = -1000000000 from wrap_id (by omega) (by omega)]
  unfold impl_areSmall.f smallL; rw [e]

/-! 064_isRing -/
theorem isRing_ev (m : Int) (x : List Int) : Ev (fun k => impl_IsRing.f k m x) (ringB m x) := by
  unfold impl_IsRing.f
  rw [modulus_eq]
  refine ev_some ?_
  by_cases h : 2 ≤ m ∧ m ≤ 40
  · refine ev_ifp (by simpa using h) (Ev.bind (totient_ev m (by omega) (by omega)) ?_)
    by_cases hl : x.length = (unitsL m).length
    · refine ev_ifp (by omega) ?_
      rw [small_eq]
      have e : ringB m x = smallL x := by simp [ringB, h, hl]
      rw [e]; exact Ev.now _
    · refine ev_ifn (by omega) ?_
      have e : ringB m x = false := by simp [ringB, hl]
      rw [e]; exact Ev.now _
  · refine ev_ifn (by simpa using h) ?_
    have e : ringB m x = false := by unfold ringB; rw [decide_eq_false h]; rfl
    rw [e]; exact Ev.now _

/-! 065_small5 -/
theorem small5_eq (x : List Int) : impl_areSmall.f x 100000 = some (small5 x) := by
  have e : inB 100000 = fun x => decide (-100000 ≤ x ∧ x ≤ 100000) := by
    funext y; unfold inB; rw [show wrap64 (-100000) = -100000 from wrap_id (by omega) (by omega)]
  unfold impl_areSmall.f small5; rw [e]

/-! 070_total -/
theorem total_l0 (x : List Int) (hb : x.length < 4611686018427387904) : ∀ (d i : Nat) (s : Int), i + d = x.length →
    Ev (fun k => impl_total.l0 k s x (x.length : Int) (i : Int)) (wsum s (x.drop i)) := by
  intro d
  induction d with
  | zero =>
    intro i s hi
    refine Ev.step (fun k => by rw [impl_total.l0, if_neg (by omega)]) ?_
    rw [List.drop_of_length_le (by omega)]; exact Ev.now _
  | succ d ih =>
    intro i s hi
    refine Ev.step (fun k => by rw [impl_total.l0, if_pos (by omega), if_pos (by omega), if_pos (by omega), wrap_idx i (by omega)]) ?_
    rw [drop_at x i (by omega)]
    exact ih (i + 1) _ (by omega)
theorem total_ev (x : List Int) (hb : x.length < 4611686018427387904) : Ev (fun k => impl_total.f k x) (wsum 0 x) := by
  have := total_l0 x hb x.length 0 0 (by omega)
  simpa [impl_total.f] using this

/-! 100_phi -/
theorem phi_l0 (n : Int) (hn : n ≤ 1000000) (d : Nat) : ∀ (c a : Int), 1 ≤ a → (n + 1 - a).toNat = d → 0 ≤ c → c + d ≤ 1000000 →
    Ev (fun k => spec_l01Phi.l0 k n c a) (c + (unitsFrom a n).length) := by
  induction d with
  | zero =>
    intro c a ha hd h0 hl
    refine Ev.step (fun k => by rw [spec_l01Phi.l0, if_neg (by omega)]) ?_
    unfold unitsFrom; rw [upto_nil (by omega)]; simpa using Ev.now c
  | succ d ih =>
    intro c a ha hd h0 hl
    refine Ev.step (fun k => by rw [spec_l01Phi.l0, if_pos (by omega), wrap_id (x := a + 1) (by omega) (by omega), wrap_id (x := c + 1) (by omega) (by omega)]) ?_
    refine Ev.bind (sgcd_ev a n (by omega) (by omega) (by omega) (by omega)) ?_
    have e : unitsFrom a n = if (Int.gcd a n : Int) = 1 then a :: unitsFrom (a + 1) n else unitsFrom (a + 1) n := by
      unfold unitsFrom; rw [upto_cons (by omega), List.filter_cons]; simp
    by_cases h : (Int.gcd a n : Int) = 1
    · refine ev_ifp h ?_
      have := ih (c + 1) (a + 1) (by omega) (by omega) (by omega) (by omega)
      rw [e, if_pos h]
      have e2 : c + ((a :: unitsFrom (a + 1) n).length : Int) = c + 1 + ((unitsFrom (a + 1) n).length : Int) := by simp; omega
      rw [e2]; exact this
    · refine ev_ifn h ?_
      have := ih c (a + 1) (by omega) (by omega) h0 (by omega)
      rw [e, if_neg h]; exact this
theorem phi_ev (n : Int) (hn : n ≤ 1000000) (h0 : 0 ≤ n) : Ev (fun k => spec_l01Phi.f k n) ((unitsL n).length : Int) := by
  have := phi_l0 n hn (n + 1 - 1).toNat 0 1 (by omega) rfl (by omega) (by omega)
  simpa [spec_l01Phi.f, unitsFrom_one] using this

/-! 101_fits01 -/
theorem fits01_l0 (m : Int) (x : List Int) (hb : x.length < 4611686018427387904) : ∀ (d i : Nat), i + d = x.length →
    Ev (fun k => spec_l01Fits.l0 k (i : Int) m x) (smallL (x.drop i)) := by
  intro d
  induction d with
  | zero =>
    intro i hi
    refine Ev.step (fun k => by rw [spec_l01Fits.l0, if_neg (by omega)]) ?_
    rw [List.drop_of_length_le (by omega)]; exact Ev.now _
  | succ d ih =>
    intro i hi
    refine Ev.step (fun k => by rw [spec_l01Fits.l0, if_pos (by omega), if_pos (by omega), in_eq, Option.bind_some, wrap_idx i (by omega)]) ?_
    rw [drop_at x i (by omega)]
    by_cases h : -1000000000 ≤ rd x i ∧ rd x i ≤ 1000000000
    · refine ev_ifp (by simpa using h) ?_
      have := ih (i + 1) (by omega)
      have e : smallL (rd x i :: x.drop (i + 1)) = smallL (x.drop (i + 1)) := by simp [smallL, h]
      rw [e]; exact this
    · refine ev_ifn (by simpa using h) ?_
      have e : smallL (rd x i :: x.drop (i + 1)) = false := by unfold smallL; rw [List.all_cons, decide_eq_false h]; rfl
      rw [e]; exact Ev.now _
theorem fits01_ev (m : Int) (x : List Int) (hb : x.length < 4611686018427387904) : Ev (fun k => spec_l01Fits.f k m x) (smallL x) := by
  have := fits01_l0 m x hb x.length 0 (by omega)
  simpa [spec_l01Fits.f] using this

/-! 102_is01 -/
theorem is01_ev (m : Int) (x : List Int) (hb : x.length < 4611686018427387904) : Ev (fun k => spec_l01Is.f k m x) (cycloB m x) := by
  unfold spec_l01Is.f
  rw [in_eq]
  refine ev_some ?_
  by_cases h : 1 ≤ m ∧ m ≤ 16
  · refine ev_ifp (by simpa using h) (Ev.bind (phi_ev m (by omega) (by omega)) ?_)
    by_cases hl : x.length = (unitsL m).length
    · refine ev_ifp (by omega) (Ev.bind (fits01_ev m x hb) ?_)
      have e : cycloB m x = smallL x := by simp [cycloB, h, hl]
      rw [e]; exact Ev.now _
    · refine ev_ifn (by omega) ?_
      have e : cycloB m x = false := by simp [cycloB, hl]
      rw [e]; exact Ev.now _
  · refine ev_ifn (by simpa using h) ?_
    have e : cycloB m x = false := by unfold cycloB; rw [decide_eq_false h]; rfl
    rw [e]; exact Ev.now _

/-! 103_isCyclo -/
theorem isCyclo_ev (m : Int) (x : List Int) : Ev (fun k => impl_IsCyclo.f k m x) (cycloB m x) := by
  unfold impl_IsCyclo.f
  rw [order_eq]
  refine ev_some ?_
  by_cases h : 1 ≤ m ∧ m ≤ 16
  · refine ev_ifp (by simpa using h) (Ev.bind (totient_ev m (by omega) (by omega)) ?_)
    by_cases hl : x.length = (unitsL m).length
    · refine ev_ifp (by omega) ?_
      rw [small_eq]
      have e : cycloB m x = smallL x := by simp [cycloB, h, hl]
      rw [e]; exact Ev.now _
    · refine ev_ifn (by omega) ?_
      have e : cycloB m x = false := by simp [cycloB, hl]
      rw [e]; exact Ev.now _
  · refine ev_ifn (by simpa using h) ?_
    have e : cycloB m x = false := by unfold cycloB; rw [decide_eq_false h]; rfl
    rw [e]; exact Ev.now _

/-! 110_cycloconv -/
theorem toCyclo_ev (m : Int) (x : List Int) (hb : x.length ≤ 1048576) : Ev (fun k => laws_toCyclo.f k m x) (m, x) := by
  unfold laws_toCyclo.f
  exact Ev.bind (toInt_ev x hb) (Ev.now _)

/-! 111_eqCyclo -/
theorem eqCyclo_self (m : Int) (x : List Int) (hb : x.length < 4611686018427387904) : Ev (fun k => laws_eqCyclo.f k m x m x) true := by
  unfold laws_eqCyclo.f
  refine ev_ifp rfl (Ev.bind (eq_self x hb) ?_)
  exact ev_ifp rfl (Ev.now _)

/-! 112_szCyclo -/
theorem szCyclo_eq (m : Int) (l : List Int) (h : l.length ≤ 9223372036854775807) (a : Int) (ha : 0 ≤ a) (ha1 : a ≤ 9223372036854775807) :
    laws_szCyclo.f m l a = some (if a < (l.length : Int) then -1 else a - l.length) := by
  unfold laws_szCyclo.f
  rw [szInt_eq l h a ha ha1, Option.bind_some]
  by_cases c : a < (l.length : Int)
  · rw [if_pos c]; rfl
  · rw [if_neg c, if_neg (by omega)]

/-! 117_markCyclo -/
theorem markCyclo_ev (n : Int) (l : List Int) (m : Int) (hm0 : 0 ≤ m) (hm : m + l.length < 4611686018427387904) : Ev (fun k => laws_markCyclo.f k n l m) (m + l.length, iot m l.length) := by
  unfold laws_markCyclo.f
  exact Ev.bind (mark_ev l m hm0 hm) (Ev.now _)

/-! 118_heldCyclo -/
theorem heldCyclo_ev (x m : Int) (n : Nat) (hm0 : 0 ≤ m) (hm : m + n < 4611686018427387904) : Ev (fun k => laws_heldCyclo.f k x (iot m n) m) (m + n) := by
  unfold laws_heldCyclo.f
  exact Ev.bind (held_ev m n hm0 hm) (ev_ifn (by omega) (Ev.now _))

/-! 400_cyclo -/
theorem cyclo_tab : ((List.range 16).all fun q => spec_l01Cyclotomic.f 300 ((q + 1 : Nat) : Int) == some (cycF (q + 1))) = true := by decide +kernel
theorem cyclo_ev {n : Nat} (h1 : 1 ≤ n) (h2 : n ≤ 16) : Ev (fun k => spec_l01Cyclotomic.f k (n : Int)) (cycF n) := by
  have h := List.all_eq_true.1 cyclo_tab (n - 1) (List.mem_range.2 (by omega))
  have e : n - 1 + 1 = n := by omega
  rw [e, beq_iff_eq] at h
  exact Ev.of (fun k => spec_l01Cyclotomic.mono _ k) h

/-! 401_field -/
theorem field_tab : ((List.range 16).all fun q => impl_fieldOf.f 300 ((q + 1 : Nat) : Int) == some (((q + 1 : Nat) : Int), (cycD (q + 1) : Int), cycP (q + 1))) = true := by decide +kernel
theorem field_ev {n : Nat} (h1 : 1 ≤ n) (h2 : n ≤ 16) : Ev (fun k => impl_fieldOf.f k (n : Int)) ((n : Int), (cycD n : Int), cycP n) := by
  have h := List.all_eq_true.1 field_tab (n - 1) (List.mem_range.2 (by omega))
  have e : n - 1 + 1 = n := by omega
  rw [e, beq_iff_eq] at h
  exact Ev.of (fun k => impl_fieldOf.mono _ k) h

/-! 402_reduce -/
theorem zero01_ev {n : Nat} (h1 : 1 ≤ n) (h2 : n ≤ 16) : Ev (fun k => spec_l01Zero.f k (n : Int)) ((n : Int), List.replicate (cycD n) 0) := by
  have C := cyc_facts h1 h2
  have h := phi_ev (n : Int) (by omega) (by omega)
  rw [C.units] at h
  unfold spec_l01Zero.f
  have := C.le12
  refine Ev.bind h (ev_ifp (by omega) (ev_ifp (by omega) ?_))
  rw [Int.toNat_natCast]; exact Ev.now _
theorem own01_eq (L : List Int) (h : L.length < 17592186044416) : spec_l01Own.f L = some L := by
  unfold spec_l01Own.f
  rw [Option.bind_some, if_pos (by simpa using h), List.nil_append]
theorem red_l1 (n : Int) (F : List Int) (D : Nat) (hF : F.length = D + 1) (v : Int) (x : Nat) (hD : D ≤ x) (r : Int × List Int) : ∀ (d c : Nat) (L : List Int), c + d = D + 1 → x < L.length → L.length ≤ 1000 →
    Ev (fun k => spec_l01Reduce.l0 k n F (redIn F v (x - D) d c L) (D : Int) ((x : Int) - 1)) r → Ev (fun k => spec_l01Reduce.l1 k n F L (D : Int) (x : Int) v (c : Int)) r
  | 0, c, L, hc, hx, hl, h => by
    refine Ev.step (fun k => by rw [spec_l01Reduce.l1, if_neg (by omega), wrap_id (x := (x : Int) - 1) (by omega) (by omega)]) ?_
    exact h
  | d + 1, c, L, hc, hx, hl, h => by
    have e : wrap64 (wrap64 ((x : Int) - (D : Int)) + (c : Int)) = ((x - D + c : Nat) : Int) := by unfold wrap64; omega
    refine Ev.step (fun k => by rw [spec_l01Reduce.l1, if_pos (by omega), e, if_pos (by omega), if_pos (by omega), if_pos (by omega), if_pos (by omega), Int.toNat_natCast, wrap_idx c (by omega)]) ?_
    refine red_l1 n F D hF v x hD r d (c + 1) _ (by omega) (by rw [List.length_set]; omega) (by rw [List.length_set]; omega) ?_
    exact h
theorem red_l0 (n : Int) (F : List Int) (D : Nat) (h1 : 1 ≤ D) (hF : F.length = D + 1) (r : Int × List Int) : ∀ (x : Nat) (L : List Int), x ≤ L.length → L.length ≤ 1000 → (hin : ∀ (v : Int) (p d c : Nat) (L : List Int), (redIn F v p d c L).length = L.length) →
    Ev (fun k => (spec_l01Zero.f k n).bind fun bt => spec_l01Reduce.l2 k (redOut F D x L) (D : Int) 0 bt.1 bt.2) r → Ev (fun k => spec_l01Reduce.l0 k n F L (D : Int) ((x : Int) - 1)) r
  | 0, L, hx, hl, hin, h => by
    refine Ev.step (fun k => by rw [spec_l01Reduce.l0, if_neg (by omega)]) ?_
    exact h
  | x + 1, L, hx, hl, hin, h => by
    have e : ((x + 1 : Nat) : Int) - 1 = (x : Int) := by omega
    rw [e]
    unfold redOut at h
    by_cases hD : D ≤ x
    · rw [if_pos hD] at h
      refine Ev.step (fun k => by rw [spec_l01Reduce.l0, if_pos (by omega), if_pos (by omega), if_pos (by omega)]) ?_
      refine red_l1 n F D hF (rd L x) x hD r (D + 1) 0 L (by omega) (by omega) hl ?_
      exact red_l0 n F D h1 hF r x _ (by rw [hin]; omega) (by rw [hin]; omega) hin h
    · rw [if_neg hD] at h
      refine Ev.step (fun k => by rw [spec_l01Reduce.l0, if_neg (by omega)]) ?_
      exact h
theorem redIn_length (F : List Int) (v : Int) (p : Nat) : ∀ (d c : Nat) (L : List Int), (redIn F v p d c L).length = L.length
  | 0, c, L => rfl
  | d + 1, c, L => by unfold redIn; rw [redIn_length F v p d, List.length_set]
theorem redOut_length (F : List Int) (D : Nat) : ∀ (x : Nat) (L : List Int), (redOut F D x L).length = L.length
  | 0, L => rfl
  | x + 1, L => by
    unfold redOut
    by_cases h : D ≤ x
    · rw [if_pos h, redOut_length F D x, redIn_length]
    · rw [if_neg h]
theorem red_l2 (n : Int) (R : List Int) (D : Nat) (hD : D ≤ 1000) (hR : R.length ≤ 1000) : ∀ (d m : Nat), m + d = D →
    Ev (fun k => spec_l01Reduce.l2 k R (D : Int) (m : Int) n (tab D fun j => if j < m then rd R j else 0)) (n, tab D fun j => rd R j)
  | 0, m, hm => by
    have e : (tab D fun j => if j < m then rd R j else 0) = tab D fun j => rd R j := tab_congr (fun j hj => if_pos (by omega))
    rw [e]
    exact Ev.step (fun k => by rw [spec_l01Reduce.l2, if_neg (by omega)]) (Ev.now _)
  | d + 1, m, hm => by
    by_cases hr : m < R.length
    · refine Ev.step (fun k => by rw [spec_l01Reduce.l2, if_pos (by omega), if_pos (by omega), if_pos (by omega), if_pos (by rw [tab_length]; omega), wrap_idx m (by omega), Int.toNat_natCast, tab_set]) ?_
      have e : (tab D fun j => if m = j then rd R (m : Nat) else if j < m then rd R j else 0) = tab D fun j => if j < m + 1 then rd R j else 0 := tab_congr (fun j hj => by
        by_cases c : m = j
        · subst c; rw [if_pos rfl, if_pos (by omega)]
        · rw [if_neg c]
          by_cases c2 : j < m
          · rw [if_pos c2, if_pos (by omega)]
          · rw [if_neg c2, if_neg (by omega)])
      rw [e]
      exact red_l2 n R D hD hR d (m + 1) (by omega)
    · have e : (tab D fun j => if j < m then rd R j else 0) = tab D fun j => rd R j := tab_congr (fun j hj => by
        by_cases c : j < m
        · rw [if_pos c]
        · rw [if_neg c, rd_out R j (by omega)])
      rw [e]
      exact Ev.step (fun k => by rw [spec_l01Reduce.l2, if_pos (by omega), if_neg (by omega)]) (Ev.now _)
theorem reduce_ev {n : Nat} (h1 : 1 ≤ n) (h2 : n ≤ 16) (L : List Int) (hl : L.length ≤ 1000) (hw : Wrapped L) : Ev (fun k => spec_l01Reduce.f k (n : Int) L) ((n : Int), tab (cycD n) fun m => wrap64 (dot L (cycW n m))) := by
  have C := cyc_facts h1 h2
  have := C.le12
  have := C.pos
  unfold spec_l01Reduce.f
  refine Ev.bind (cyclo_ev h1 h2) ?_
  rw [own01_eq L (by omega)]
  refine ev_some ?_
  rw [C.lenF]
  have e1 : wrap64 (((cycD n + 1 : Nat) : Int) - 1) = (cycD n : Int) := by unfold wrap64; omega
  have e2 : wrap64 ((L.length : Int) - 1) = (L.length : Int) - 1 := wrap_id (by omega) (by omega)
  rw [e1, e2]
  refine red_l0 (n : Int) (cycF n) (cycD n) (by omega) C.lenF _ L.length L (Nat.le_refl _) hl (redIn_length _) (Ev.bind (zero01_ev h1 h2) ?_)
  have h := red_l2 (n : Int) (redOut (cycF n) (cycD n) L.length L) (cycD n) (by omega) (by rw [redOut_length]; omega) (cycD n) 0 (by omega)
  have e3 : (tab (cycD n) fun j => if j < 0 then rd (redOut (cycF n) (cycD n) L.length L) j else 0) = List.replicate (cycD n) 0 := by
    rw [tab_zero]; exact tab_congr (fun j _ => if_neg (by omega))
  rw [e3] at h
  have e4 : (tab (cycD n) fun j => rd (redOut (cycF n) (cycD n) L.length L) j) = tab (cycD n) fun m => wrap64 (dot L (cycW n m)) := tab_congr (fun j hj => redL_rd C h1 L hw j hj)
  rw [e4] at h
  exact h

/-! 403_one01 -/
theorem one01_tab : ((List.range 16).all fun q => spec_l01One.f 400 ((q + 1 : Nat) : Int) == some (((q + 1 : Nat) : Int), tab (cycD (q + 1)) fun m => if m = 0 then 1 else 0)) = true := by decide +kernel
theorem one01_ev {n : Nat} (h1 : 1 ≤ n) (h2 : n ≤ 16) : Ev (fun k => spec_l01One.f k (n : Int)) ((n : Int), tab (cycD n) fun m => if m = 0 then 1 else 0) := by
  have h := List.all_eq_true.1 one01_tab (n - 1) (List.mem_range.2 (by omega))
  have e : n - 1 + 1 = n := by omega
  rw [e, beq_iff_eq] at h
  exact Ev.of (fun k => spec_l01One.mono _ k) h

/-! 404_galois -/
theorem round_eq {z : Int} {n : Nat} (h0 : 0 ≤ z) (hz : z ≤ 1000000) (h1 : 1 ≤ n) (h2 : n ≤ 16) : Int.tmod (wrap64 (Int.tmod (wrap64 z) n + n)) n = z % n := by
  have a := Int.emod_nonneg z (b := n) (by omega)
  have b := Int.emod_lt_of_pos z (b := n) (by omega)
  rw [wrap_id (x := z) (by omega) (by omega), Int.tmod_eq_emod_of_nonneg h0, wrap_id (by omega) (by omega), Int.tmod_eq_emod_of_nonneg (by omega), Int.add_emod_right, Int.emod_emod]
theorem mul_small {i : Nat} {a : Int} (hi : i ≤ 100) (h0 : 0 ≤ a) (h1 : a ≤ 1000) : 0 ≤ (i : Int) * a ∧ (i : Int) * a ≤ 1000000 := by
  refine ⟨Int.mul_nonneg (by omega) h0, ?_⟩
  have := Int.mul_le_mul (a := (i : Int)) (b := a) (c := 1000) (d := 1000) (by omega) h1 h0 (by omega)
  omega
theorem gal_l0 {n : Nat} (h1 : 1 ≤ n) (h2 : n ≤ 16) (x : List Int) (a : Int) (hx : x.length ≤ 100) (h0 : 0 ≤ a) (ha : a ≤ 1000) (b : Int) (r : Int × List Int) : ∀ (d i : Nat) (G : List Int), i + d = x.length → G.length = n →
    Ev (fun k => (spec_l01Reduce.f k (n : Int) (galIn n x a d i G)).bind fun bt => some (bt.1, bt.2)) r → Ev (fun k => spec_l01Galois.l0 k a (n : Int) G (i : Int) b x) r
  | 0, i, G, hi, hG, h => by
    refine Ev.step (fun k => by rw [spec_l01Galois.l0, if_neg (by omega)]) ?_
    exact h
  | d + 1, i, G, hi, hG, h => by
    have hm := mul_small (i := i) (by omega) h0 ha
    have e := round_eq hm.1 hm.2 h1 h2
    have q0 := Int.emod_nonneg ((i : Int) * a) (b := n) (by omega)
    have q1 := Int.emod_lt_of_pos ((i : Int) * a) (b := n) (by omega)
    refine Ev.step (fun k => by rw [spec_l01Galois.l0, if_pos (by omega), if_neg (by omega), e, if_pos q0, if_pos (by omega), if_pos (by omega), wrap_idx i (by omega)]) ?_
    refine gal_l0 h1 h2 x a hx h0 ha b r d (i + 1) _ (by omega) (by rw [List.length_set]; exact hG) ?_
    have e3 : ((((i : Int) * a % n).toNat : Nat) : Int) = (i : Int) * a % n := Int.toNat_of_nonneg q0
    unfold galIn at h
    rw [e3] at h
    exact h
theorem gal_ev {n : Nat} (h1 : 1 ≤ n) (h2 : n ≤ 16) (x : List Int) (a : Int) (hx : x.length ≤ 100) (h0 : 0 ≤ a) (ha : a ≤ 1000) : Ev (fun k => spec_l01Galois.f k (n : Int) x a) ((n : Int), tab (cycD n) fun m => wrap64 (gal n x a m)) := by
  unfold spec_l01Galois.f
  refine ev_ifp (by omega) (ev_ifp (by omega) ?_)
  rw [Int.toNat_natCast]
  obtain ⟨a1, a2, a3⟩ := galIn_facts n h1 x a x.length 0 (List.replicate n 0) (by simp) (wrapped_zeros n)
  refine gal_l0 h1 h2 x a hx h0 ha n _ x.length 0 _ (by omega) (by simp) (Ev.bind (reduce_ev h1 h2 _ (by rw [a1]; omega) a2) ?_)
  have e : (tab (cycD n) fun m => wrap64 (dot (galIn n x a x.length 0 (List.replicate n 0)) (cycW n m))) = tab (cycD n) fun m => wrap64 (gal n x a m) := tab_congr (fun m _ => by
    refine ((a3 (cycW n m)).trans (Cg.of ?_)).eq
    rw [dot_zeros, Int.zero_add]; rfl)
  rw [e]
  exact Ev.now _

/-! 405_image -/
theorem with_l1 (pf : Int → Option Int) (n : Int) (P : List (List Int)) (x row : List Int) (v : Int) (i : Nat) (hi : i < 1000) (hr : row.length ≤ 1000) (r : List Int) : ∀ (d c : Nat) (o : List Int), c + d = row.length → o.length = row.length →
    Ev (fun k => impl_field_with.l0 pf k (addIn row v 0 d c o) x (x.length : Int) ((i + 1 : Nat) : Int) n P) r → Ev (fun k => impl_field_with.l1 pf k o v x (x.length : Int) (i : Int) row (row.length : Int) (c : Int) n P) r
  | 0, c, o, hc, ho, h => by
    refine Ev.step (fun k => by rw [impl_field_with.l1, if_neg (by omega), wrap_idx i (by omega)]) ?_
    exact h
  | d + 1, c, o, hc, ho, h => by
    refine Ev.step (fun k => by rw [impl_field_with.l1, if_pos (by omega), if_pos (by omega), if_pos (by omega), if_pos (by omega), wrap_idx c (by omega), Int.toNat_natCast]) ?_
    unfold addIn at h
    rw [Nat.zero_add] at h
    exact with_l1 pf n P x row v i hi hr r d (c + 1) _ (by omega) (by rw [List.length_set]; exact ho) h
theorem with_l0 {n : Nat} (C : CycFacts n) (hn : 1 ≤ n) (pf : Int → Option Int) (x : List Int) (hx : x.length ≤ 100) (q : Nat → Nat) (hq : ∀ j, j < x.length → q j < n ∧ ∃ t, pf (j : Int) = some t ∧ impl_around.f t (n : Int) = some (q j : Int)) : ∀ (d i : Nat) (o : List Int), i + d = x.length → o.length = cycD n →
    Ev (fun k => impl_field_with.l0 pf k o x (x.length : Int) (i : Int) (n : Int) (cycP n)) (imIn n x q d i o)
  | 0, i, o, hi, ho => Ev.step (fun k => by rw [impl_field_with.l0, if_neg (by omega)]; rfl) (Ev.now _)
  | d + 1, i, o, hi, ho => by
    obtain ⟨q1, t, q2, q3⟩ := hq i (by omega)
    obtain ⟨r1, r2, r3⟩ := cycRow_facts C hn q1
    have := C.le12
    have e : rd_L1 (cycP n) (q i : Int) = cycRow n (q i) := by unfold rd_L1 cycRow; rw [Int.toNat_natCast]
    refine Ev.step (fun k => by rw [impl_field_with.l0, if_pos (by omega), if_pos (by omega), if_pos (by omega), q2, Option.bind_some, q3, Option.bind_some, if_pos (by omega), if_pos (by rw [C.lenP]; omega), e]) ?_
    refine with_l1 pf n (cycP n) x (cycRow n (q i)) (rd x i) i (by omega) (by omega) _ (cycRow n (q i)).length 0 o (by omega) (by omega) ?_
    rw [r1]
    have hl := (addIn_length (cycRow n (q i)) (rd x i) 0 (cycD n) 0 o).trans ho
    exact with_l0 C hn pf x hx q hq d (i + 1) _ (by omega) hl
theorem with_ev {n : Nat} (h1 : 1 ≤ n) (h2 : n ≤ 16) (pf : Int → Option Int) (x : List Int) (hx : x.length ≤ 100) (q : Nat → Nat) (hq : ∀ j, j < x.length → q j < n ∧ ∃ t, pf (j : Int) = some t ∧ impl_around.f t (n : Int) = some (q j : Int)) :
    Ev (fun k => impl_field_with.f pf k (n : Int) (cycD n : Int) (cycP n) x) (tab (cycD n) fun m => wrap64 (galQ n x q m)) := by
  have C := cyc_facts h1 h2
  have := C.le12
  unfold impl_field_with.f
  refine ev_ifp (by omega) (ev_ifp (by omega) ?_)
  rw [Int.toNat_natCast, ← imIn_tab C h1 x q (fun j hj => (hq j hj).1)]
  exact with_l0 C h1 pf x hx q hq x.length 0 _ (by omega) (by simp)
theorem around_eq {z : Int} {n : Nat} (h0 : 0 ≤ z) (hz : z ≤ 1000000) (h1 : 1 ≤ n) (h2 : n ≤ 16) : impl_around.f (wrap64 z) (n : Int) = some (z % n) := by
  have a := Int.emod_nonneg z (b := n) (by omega)
  have b := Int.emod_lt_of_pos z (b := n) (by omega)
  unfold impl_around.f
  rw [if_neg (by omega), wrap_id (x := z) (by omega) (by omega), Int.tmod_eq_emod_of_nonneg h0, wrap_id (by omega) (by omega), Int.tmod_eq_emod_of_nonneg (by omega), Int.add_emod_right, Int.emod_emod]
theorem image_ev {n : Nat} (h1 : 1 ≤ n) (h2 : n ≤ 16) (x : List Int) (a : Int) (hx : x.length ≤ 100) (h0 : 0 ≤ a) (ha : a ≤ 1000) : Ev (fun k => impl_field_image.f k (n : Int) (cycD n : Int) (cycP n) x a) (tab (cycD n) fun m => wrap64 (gal n x a m)) := by
  unfold impl_field_image.f
  refine with_ev h1 h2 _ x hx (fun i => (((i : Int) * a) % n).toNat) (fun j hj => ?_)
  have q0 := Int.emod_nonneg ((j : Int) * a) (b := n) (by omega)
  have q1 := Int.emod_lt_of_pos ((j : Int) * a) (b := n) (by omega)
  have m0 : 0 ≤ (j : Int) * a := Int.mul_nonneg (by omega) h0
  have m1 : (j : Int) * a ≤ 1000000 := by
    have := Int.mul_le_mul (a := (j : Int)) (b := a) (c := 1000) (d := 1000) (by omega) ha h0 (by omega)
    omega
  refine ⟨by omega, _, rfl, ?_⟩
  rw [Int.mul_comm a, around_eq m0 m1 h1 h2, Int.toNat_of_nonneg q0]

/-! 406_times01 -/
theorem prod_l1 (n : Int) (x y : List Int) (i : Nat) (hi : i < x.length) (hx : x.length ≤ 100) (hy : y.length ≤ 100) (r : Int × List Int) : ∀ (d c : Nat) (L : List Int), c + d = y.length → L.length + 1 = x.length + y.length →
    Ev (fun k => spec_l01Product.l0 k y (addIn y (rd x i) i d c L) ((i + 1 : Nat) : Int) n x) r → Ev (fun k => spec_l01Product.l1 k y L (i : Int) (c : Int) n x) r
  | 0, c, L, hc, hL, h => by
    refine Ev.step (fun k => by rw [spec_l01Product.l1, if_neg (by omega), wrap_idx i (by omega)]) ?_
    exact h
  | d + 1, c, L, hc, hL, h => by
    have e : wrap64 ((i : Int) + (c : Int)) = ((i + c : Nat) : Int) := by unfold wrap64; omega
    refine Ev.step (fun k => by rw [spec_l01Product.l1, if_pos (by omega), e, if_pos (by omega), if_pos (by omega), if_pos (by omega), if_pos (by omega), if_pos (by omega), wrap_idx c (by omega), Int.toNat_natCast]) ?_
    exact prod_l1 n x y i hi hx hy r d (c + 1) _ (by omega) (by rw [List.length_set]; exact hL) h
theorem prod_l0 (n : Int) (x y : List Int) (hx : x.length ≤ 100) (hy : y.length ≤ 100) (r : Int × List Int) : ∀ (d i : Nat) (L : List Int), i + d = x.length → L.length + 1 = x.length + y.length →
    Ev (fun k => (spec_l01Reduce.f k n (addOut x y d i L)).bind fun bt => some (bt.1, bt.2)) r → Ev (fun k => spec_l01Product.l0 k y L (i : Int) n x) r
  | 0, i, L, hi, hL, h => by
    refine Ev.step (fun k => by rw [spec_l01Product.l0, if_neg (by omega)]) ?_
    exact h
  | d + 1, i, L, hi, hL, h => by
    refine Ev.step (fun k => by rw [spec_l01Product.l0, if_pos (by omega)]) ?_
    refine prod_l1 n x y i (by omega) hx hy r y.length 0 L (by omega) hL ?_
    exact prod_l0 n x y hx hy r d (i + 1) _ (by omega) (by rw [addIn_length]; exact hL) h
theorem prod_ev {n : Nat} (h1 : 1 ≤ n) (h2 : n ≤ 16) (x y : List Int) (hx : x.length ≤ 100) (hy : y.length ≤ 100) (h0 : 1 ≤ y.length) : Ev (fun k => spec_l01Product.f k (n : Int) x y) ((n : Int), tab (cycD n) fun m => wrap64 (bil n x y m)) := by
  unfold spec_l01Product.f
  have e : wrap64 (wrap64 ((x.length : Int) + (y.length : Int)) - 1) = ((x.length + y.length - 1 : Nat) : Int) := by unfold wrap64; omega
  rw [e]
  refine ev_ifp (by omega) (ev_ifp (by omega) ?_)
  rw [Int.toNat_natCast]
  obtain ⟨a1, a2, a3⟩ := addOut_facts x y x.length 0 (List.replicate (x.length + y.length - 1) 0) (by intro _; rw [List.length_replicate]; omega) (wrapped_zeros _)
  refine prod_l0 n x y hx hy _ x.length 0 _ (by omega) (by rw [List.length_replicate]; omega) (Ev.bind (reduce_ev h1 h2 _ (by rw [a1, List.length_replicate]; omega) a2) ?_)
  have e : (tab (cycD n) fun m => wrap64 (dot (addOut x y x.length 0 (List.replicate (x.length + y.length - 1) 0)) (cycW n m))) = tab (cycD n) fun m => wrap64 (bil n x y m) := tab_congr (fun m _ => by
    refine ((a3 (cycW n m)).trans (Cg.of ?_)).eq
    rw [dot_zeros, Int.zero_add]; rfl)
  rw [e]
  exact Ev.now _
theorem times_l0 (n n2 : Int) (x y : List Int) (hy : y.length ≤ 100) (r : Int × List Int × Bool) : ∀ (d i : Nat) (A B : List Int), i + d = y.length → A.length ≤ 1000 + i → B.length ≤ 1000 + i →
    Ev (fun k => (spec_l01Product.f k n x (A ++ (y.drop i).map lo5)).bind fun bt => (spec_l01Product.f k n x (B ++ (y.drop i).map hi5)).bind fun bt2 => (spec_l01Zero.f k n).bind fun bt3 => spec_l01Times.l1 k 0 bt.1 bt.2 bt2.1 bt2.2 bt3.1 bt3.2) r →
    Ev (fun k => spec_l01Times.l0 k A B (i : Int) n x n2 y) r
  | 0, i, A, B, hi, hA, hB, h => by
    refine Ev.step (fun k => by rw [spec_l01Times.l0, if_neg (by omega)]) ?_
    rw [List.drop_of_length_le (by omega), List.map_nil, List.append_nil, List.map_nil, List.append_nil] at h
    exact h
  | d + 1, i, A, B, hi, hA, hB, h => by
    refine Ev.step (fun k => by rw [spec_l01Times.l0, if_pos (by omega), if_pos (by omega), if_pos (by omega), if_pos (by omega), wrap_idx i (by omega)]) ?_
    refine times_l0 n n2 x y hy r d (i + 1) (A ++ [lo5 (rd y i)]) (B ++ [hi5 (rd y i)]) (by omega) (by rw [List.length_append]; simp only [List.length_singleton]; omega) (by rw [List.length_append]; simp only [List.length_singleton]; omega) ?_
    rw [drop_at y i (by omega), List.map_cons, List.map_cons] at h
    rw [List.append_assoc, List.append_assoc]
    exact h
theorem times_l1 (n : Int) (D : Nat) (hD : D ≤ 100) (H Lw : Nat → Int) (hH : ∀ m, m < D → -100000000000000000 ≤ H m ∧ H m ≤ 100000000000000000) (hL : ∀ m, m < D → -100000000000000000 ≤ Lw m ∧ Lw m ≤ 100000000000000000) : ∀ (d m : Nat), m + d = D →
    ∃ R b, Ev (fun k => spec_l01Times.l1 k (m : Int) n (tab D Lw) n (tab D H) n (tab D fun j => if j < m then 100000 * H j + Lw j else 0)) (n, R, b) ∧
      (b = true ↔ (∀ j, m ≤ j → j < D → -10000000000000 ≤ H j ∧ H j ≤ 10000000000000) ∧ smallL (tab D fun j => 100000 * H j + Lw j) = true) ∧ (b = true → R = tab D fun j => 100000 * H j + Lw j)
  | 0, m, hm => by
    have e : (tab D fun j => if j < m then 100000 * H j + Lw j else 0) = tab D fun j => 100000 * H j + Lw j := tab_congr (fun j hj => if_pos (by omega))
    rw [e]
    refine ⟨_, _, Ev.step (fun k => by rw [spec_l01Times.l1, if_neg (by rw [tab_length]; omega)]) (Ev.bind (fits01_ev n _ (by rw [tab_length]; omega)) (Ev.now _)), ?_, fun _ => rfl⟩
    exact ⟨fun h => ⟨fun j h1 h2 => by omega, h⟩, fun h => h.2⟩
  | d + 1, m, hm => by
    have a := hH m (by omega)
    have b := hL m (by omega)
    have st : ∀ k, spec_l01Times.l1 (k + 1) (m : Int) n (tab D Lw) n (tab D H) n (tab D fun j => if j < m then 100000 * H j + Lw j else 0) = if (decide (-10000000000000 ≤ H m ∧ H m ≤ 10000000000000)) = true then (spec_l01Times.l1 k ((m + 1 : Nat) : Int) n (tab D Lw) n (tab D H) n ((tab D fun j => if j < m then 100000 * H j + Lw j else 0).set m (wrap64 (wrap64 (H m * 100000) + Lw m)))) else some (n, (tab D fun j => if j < m then 100000 * H j + Lw j else 0), false) := by
      intro k
      rw [spec_l01Times.l1, if_pos (by rw [tab_length]; omega), if_pos (by omega), if_pos (by rw [tab_length]; omega), tab_rd _ _ _ (by omega), in_eq, Option.bind_some, if_pos (show (m : Int) < ((tab D Lw).length : Int) by rw [tab_length]; omega), tab_rd _ _ _ (by omega), wrap_idx m (by omega), Int.toNat_natCast]
    by_cases h : -10000000000000 ≤ H m ∧ H m ≤ 10000000000000
    · have e : (tab D fun j => if j < m then 100000 * H j + Lw j else 0).set m (wrap64 (wrap64 (H m * 100000) + Lw m)) = tab D fun j => if j < m + 1 then 100000 * H j + Lw j else 0 := by
        rw [tab_set, wrap_id (x := H m * 100000) (by omega) (by omega), wrap_id (by omega) (by omega)]
        refine tab_congr (fun j hj => ?_)
        by_cases c : m = j
        · subst c; rw [if_pos rfl, if_pos (by omega)]; omega
        · rw [if_neg c]
          by_cases c2 : j < m
          · rw [if_pos c2, if_pos (by omega)]
          · rw [if_neg c2, if_neg (by omega)]
      obtain ⟨R, b, h1, h2, h3⟩ := times_l1 n D hD H Lw hH hL d (m + 1) (by omega)
      refine ⟨R, b, Ev.step (fun k => by rw [st k, if_pos (by simpa using h), e]) h1, ?_, h3⟩
      rw [h2]
      refine and_congr_left (fun _ => ⟨fun g j g1 g2 => ?_, fun g j g1 g2 => g j (by omega) g2⟩)
      by_cases c : m = j
      · subst c; exact h
      · exact g j (by omega) g2
    · refine ⟨_, false, Ev.step (fun k => by rw [st k, if_neg (by simpa using h)]) (Ev.now _), ?_, fun h => (by cases h)⟩
      exact ⟨fun h => (by cases h), fun g => absurd (g.1 m (Nat.le_refl _) (by omega)) h⟩
theorem times01_ev {n : Nat} (h1 : 1 ≤ n) (h2 : n ≤ 16) (n2 : Int) (x y : List Int) (hx : x.length = cycD n) (hy : y.length = cycD n) (bx : within 1000000000 x) (by_ : within 16000000000 y) :
    ∃ R, Ev (fun k => spec_l01Times.f k (n : Int) x n2 y) ((n : Int), R, okB n x y) ∧ (okB n x y = true → R = tab (cycD n) (bil n x y)) := by
  have C := cyc_facts h1 h2
  have c12 := C.le12
  have c1 := C.pos
  have hlo : within 100000 (y.map lo5) := by
    intro j hj
    rw [List.length_map] at hj
    rw [rd_map _ _ _ hj]
    exact (lohi (by_ j hj)).2.1
  have hhi : within 160000 (y.map hi5) := by
    intro j hj
    rw [List.length_map] at hj
    rw [rd_map _ _ _ hj]
    exact (lohi (by_ j hj)).2.2
  have bL : ∀ m, -14400000000000000 ≤ bil n x (y.map lo5) m ∧ bil n x (y.map lo5) m ≤ 14400000000000000 := fun m => by
    have := bil_le C h1 (by omega) (by omega) bx hlo (by omega) (by rw [List.length_map]; omega) m
    omega
  have bH : ∀ m, -23040000000000000 ≤ bil n x (y.map hi5) m ∧ bil n x (y.map hi5) m ≤ 23040000000000000 := fun m => by
    have := bil_le C h1 (by omega) (by omega) bx hhi (by omega) (by rw [List.length_map]; omega) m
    omega
  have eT : ∀ m, bil n x y m = 100000 * bil n x (y.map hi5) m + bil n x (y.map lo5) m := fun m => bil_split n x y by_ m
  have eL : (tab (cycD n) fun m => wrap64 (bil n x (y.map lo5) m)) = tab (cycD n) (bil n x (y.map lo5)) := tab_congr (fun m _ => wrap_id (by have := bL m; omega) (by have := bL m; omega))
  have eH : (tab (cycD n) fun m => wrap64 (bil n x (y.map hi5) m)) = tab (cycD n) (bil n x (y.map hi5)) := tab_congr (fun m _ => wrap_id (by have := bH m; omega) (by have := bH m; omega))
  have e0 : (tab (cycD n) fun j => if j < 0 then 100000 * bil n x (y.map hi5) j + bil n x (y.map lo5) j else 0) = List.replicate (cycD n) 0 := by
    rw [tab_zero]; exact tab_congr (fun j _ => if_neg (by omega))
  have eB : (tab (cycD n) fun j => 100000 * bil n x (y.map hi5) j + bil n x (y.map lo5) j) = tab (cycD n) (bil n x y) := tab_congr (fun j _ => (eT j).symm)
  obtain ⟨R, b, g1, g2, g3⟩ := times_l1 (n : Int) (cycD n) (by omega) (bil n x (y.map hi5)) (bil n x (y.map lo5)) (fun m _ => by have := bH m; omega) (fun m _ => by have := bL m; omega) (cycD n) 0 (by omega)
  rw [e0] at g1
  rw [eB] at g2 g3
  have hb : b = okB n x y := by
    have key : b = true ↔ okB n x y = true := by
      rw [g2]
      refine ⟨fun h => h.2, fun h => ⟨fun j _ hj => ?_, h⟩⟩
      have t := smallL_tab.1 h j hj
      have := eT j
      have := bL j
      omega
    exact Bool.eq_iff_iff.2 key
  subst hb
  refine ⟨R, ?_, g3⟩
  have hp1 := prod_ev h1 h2 x (y.map lo5) (by omega) (by rw [List.length_map]; omega) (by rw [List.length_map]; omega)
  have hp2 := prod_ev h1 h2 x (y.map hi5) (by omega) (by rw [List.length_map]; omega) (by rw [List.length_map]; omega)
  rw [eL] at hp1
  rw [eH] at hp2
  unfold spec_l01Times.f
  refine times_l0 (n : Int) n2 x y (by omega) _ y.length 0 [] [] (by omega) (by simp) (by simp) ?_
  rw [List.drop_zero, List.nil_append, List.nil_append]
  exact Ev.bind hp1 (Ev.bind hp2 (Ev.bind (zero01_ev h1 h2) g1))

/-! 407_timesI -/
/-- The sums stand at A, of at most c numbers each. -/
def Sums (D : Nat) (s : List (Int × Nat)) (A : Nat → Int) (c : Nat) : Prop := s.length = D ∧ ∀ j, j < D → (∃ q, s[j]? = some (A j, q) ∧ q ≤ c) ∧ -(16000000000000000000 * (c : Int)) ≤ A j ∧ A j ≤ 16000000000000000000 * (c : Int)
theorem Sums.congr {D : Nat} {s : List (Int × Nat)} {A B : Nat → Int} {c : Nat} (h : Sums D s A c) (e : ∀ j, j < D → A j = B j) : Sums D s B c :=
  ⟨h.1, fun j hj => by rw [← e j hj]; exact h.2 j hj⟩
theorem Sums.more {D : Nat} {s : List (Int × Nat)} {A : Nat → Int} {c c' : Nat} (h : Sums D s A c) (e : c ≤ c') : Sums D s A c' :=
  ⟨h.1, fun j hj => by obtain ⟨⟨q, h1, h2⟩, h3⟩ := h.2 j hj; exact ⟨⟨q, h1, Nat.le_trans h2 e⟩, by omega⟩⟩
theorem addAt_ok {D : Nat} {s : List (Int × Nat)} {A : Nat → Int} {c : Nat} (h : Sums D s A c) (hc : c ≤ 10000) (m : Nat) (hm : m < D) (a y : Int) (ha : -1000000000 ≤ a ∧ a ≤ 1000000000) (hy : -16000000000 ≤ y ∧ y ≤ 16000000000) :
    ∃ s', addAt s m a y = some s' ∧ Sums D s' (fun j => if m = j then A j + a * y else A j) (c + 1) := by
  obtain ⟨⟨q, h1, h2⟩, h3⟩ := h.2 m hm
  have hp := mul_le ha hy
  refine ⟨s.set m (A m + a * y, q + 1), ?_, by rw [List.length_set]; exact h.1, fun j hj => ?_⟩
  · unfold addAt
    rw [h1]
    simp only []
    rw [if_pos ⟨by omega, by omega, by omega, by omega, by omega⟩]
  · by_cases e : m = j
    · subst e
      refine ⟨⟨q + 1, ?_, by omega⟩, ?_⟩
      · dsimp only
        rw [List.getElem?_set, if_pos rfl, if_pos (by rw [h.1]; exact hm), if_pos rfl]
      · dsimp only
        rw [if_pos rfl]; omega
    · obtain ⟨⟨q', g1, g2⟩, g3⟩ := h.2 j hj
      refine ⟨⟨q', ?_, by omega⟩, ?_⟩
      · dsimp only
        rw [List.getElem?_set, if_neg e, if_neg e]; exact g1
      · dsimp only
        rw [if_neg e]; omega
theorem pr2_ok {D : Nat} (x y : Int) (hx : -1000000000 ≤ x ∧ x ≤ 1000000000) (hy : -16000000000 ≤ y ∧ y ≤ 16000000000) : ∀ (l : List Int) (m : Nat) (s : List (Int × Nat)) (A : Nat → Int) (c : Nat), m + l.length = D → (∀ r ∈ l, -1 ≤ r ∧ r ≤ 1) → c + l.length ≤ 10000 → Sums D s A c →
    ∃ s', pr2 x y l m s = some s' ∧ Sums D s' (fun j => if m ≤ j then A j + rd l ((j - m : Nat) : Int) * x * y else A j) (c + l.length)
  | [], m, s, A, c, hm, hl, hc, hs => by
    rw [List.length_nil] at hm
    exact ⟨s, rfl, hs.congr (fun j hj => by rw [if_neg (by omega)])⟩
  | n :: t, m, s, A, c, hm, hl, hc, hs => by
    rw [List.length_cons] at hm hc
    have hn := hl n (List.mem_cons_self ..)
    have e0 : rd (n :: t) ((m - m : Nat) : Int) = n := by rw [Nat.sub_self]; rfl
    have e1 : ∀ j, m + 1 ≤ j → rd (n :: t) ((j - m : Nat) : Int) = rd t ((j - (m + 1) : Nat) : Int) := by
      intro j hj
      unfold rd
      rw [Int.toNat_natCast, Int.toNat_natCast]
      have : j - m = (j - (m + 1)) + 1 := by omega
      rw [this, List.getD_cons_succ]
    have ht : ∀ r ∈ t, -1 ≤ r ∧ r ≤ 1 := fun r hr => hl r (List.mem_cons_of_mem _ hr)
    by_cases h0 : n = 0
    · obtain ⟨s', g1, g2⟩ := pr2_ok x y hx hy t (m + 1) s A c (by omega) ht (by omega) hs
      refine ⟨s', by unfold pr2; rw [if_pos h0]; exact g1, (g2.more (by rw [List.length_cons]; omega)).congr (fun j hj => ?_)⟩
      by_cases c1 : m + 1 ≤ j
      · rw [if_pos c1, if_pos (by omega), e1 j c1]
      · rw [if_neg c1]
        by_cases c2 : m ≤ j
        · have : j = m := by omega
          subst this
          rw [if_pos c2, e0, h0, Int.zero_mul, Int.zero_mul, Int.add_zero]
        · rw [if_neg c2]
    · have hnx : -1000000000 ≤ n * x ∧ n * x ≤ 1000000000 := by
        have := mul_le (A := 1) hn hx
        omega
      have hw : wrap64 (n * x) = n * x := wrap_id (by omega) (by omega)
      obtain ⟨s1, a1, a2⟩ := addAt_ok hs (by omega) m (by omega) (n * x) y hnx hy
      obtain ⟨s', g1, g2⟩ := pr2_ok x y hx hy t (m + 1) s1 _ (c + 1) (by omega) ht (by omega) a2
      refine ⟨s', by unfold pr2; rw [if_neg h0, hw, a1]; exact g1, (g2.more (by rw [List.length_cons]; omega)).congr (fun j hj => ?_)⟩
      by_cases c1 : m + 1 ≤ j
      · rw [if_pos c1, if_pos (show m ≤ j by omega), e1 j c1, if_neg (show ¬ m = j by omega)]
      · rw [if_neg c1]
        by_cases c2 : m ≤ j
        · have : j = m := by omega
          subst this
          rw [if_pos c2, e0, if_pos rfl]
        · rw [if_neg c2, if_neg (show ¬ m = j by omega)]
theorem pr1_ok {n : Nat} (C : CycFacts n) (hn : 1 ≤ n) (i : Nat) (x : Int) (y : List Int) (hx : -1000000000 ≤ x ∧ x ≤ 1000000000) (hy : within 16000000000 y) : ∀ (d k : Nat) (s : List (Int × Nat)) (A : Nat → Int) (c : Nat), k + d = y.length → c + 12 * d ≤ 10000 → Sums (cycD n) s A c →
    ∃ s', pr1 (n : Int) (cycP n) i x (y.drop k) k s = some s' ∧ Sums (cycD n) s' (fun j => A j + x * sumF k d (fun t => rd y t * cycW n j (i + t))) (c + 12 * d)
  | 0, k, s, A, c, hk, hc, hs => by
    rw [List.drop_of_length_le (by omega)]
    exact ⟨s, rfl, hs.congr (fun j hj => by show A j = A j + x * 0; omega)⟩
  | d + 1, k, s, A, c, hk, hc, hs => by
    rw [drop_at y k (by omega)]
    have es : ∀ j, sumF k (d + 1) (fun t => rd y t * cycW n j (i + t)) = rd y k * cycW n j (i + k) + sumF (k + 1) d (fun t => rd y t * cycW n j (i + t)) := fun j => rfl
    unfold pr1
    by_cases h0 : x = 0 ∨ rd y k = 0
    · rw [if_pos h0]
      obtain ⟨s', g1, g2⟩ := pr1_ok C hn i x y hx hy d (k + 1) s A c (by omega) (by omega) hs
      refine ⟨s', g1, (g2.more (by omega)).congr (fun j hj => ?_)⟩
      rw [es, Int.mul_add]
      rcases h0 with h | h
      · rw [h, Int.zero_mul, Int.zero_mul]; omega
      · rw [h, Int.zero_mul, Int.mul_zero]; omega
    · rw [if_neg h0]
      have q0 : Int.tmod ((i : Int) + (k : Int)) (n : Int) = (((i + k) % n : Nat) : Int) := by
        rw [Int.tmod_eq_emod_of_nonneg (by omega)]; push_cast; rfl
      have q1 : (i + k) % n < n := Nat.mod_lt _ hn
      obtain ⟨r1, r2, r3⟩ := cycRow_facts C hn q1
      have c12 := C.le12
      have e : rd_L1 (cycP n) (((i + k) % n : Nat) : Int) = cycRow n ((i + k) % n) := by unfold rd_L1 cycRow; rw [Int.toNat_natCast]
      rw [q0, e, if_pos ⟨by omega, by omega, by rw [C.lenP]; omega, by omega⟩]
      obtain ⟨s1, a1, a2⟩ := pr2_ok x (rd y k) hx (hy k (by omega)) (cycRow n ((i + k) % n)) 0 s A c (by omega) r2 (by omega) hs
      obtain ⟨s', g1, g2⟩ := pr1_ok C hn i x y hx hy d (k + 1) s1 _ (c + 12) (by omega) (by omega) (a2.more (by omega))
      refine ⟨s', by rw [a1]; exact g1, (g2.more (by omega)).congr (fun j hj => ?_)⟩
      rw [if_pos (Nat.zero_le _), Nat.sub_zero, r3, cycW_mod, es, Int.mul_add]
      have e2 : cycW n j (i + k) * x * rd y k = x * (rd y k * cycW n j (i + k)) := by rw [Int.mul_comm (cycW n j (i + k)) x, Int.mul_assoc, Int.mul_comm (cycW n j (i + k))]
      rw [e2]; omega
theorem pr0_ok {n : Nat} (C : CycFacts n) (hn : 1 ≤ n) (x y : List Int) (hl : y.length ≤ 12) (hx : within 1000000000 x) (hy : within 16000000000 y) : ∀ (d i : Nat) (s : List (Int × Nat)) (A : Nat → Int) (c : Nat), i + d = x.length → c + 144 * d ≤ 9000 → Sums (cycD n) s A c →
    ∃ s', pr0 (n : Int) (cycP n) y (x.drop i) i s = some s' ∧ Sums (cycD n) s' (fun j => A j + sumF i d (fun i => rd x i * sumF 0 y.length (fun k => rd y k * cycW n j (i + k)))) (c + 144 * d)
  | 0, i, s, A, c, hi, hc, hs => by
    rw [List.drop_of_length_le (by omega)]
    exact ⟨s, rfl, hs.congr (fun j hj => by show A j = A j + 0; omega)⟩
  | d + 1, i, s, A, c, hi, hc, hs => by
    rw [drop_at x i (by omega)]
    unfold pr0
    obtain ⟨s1, a1, a2⟩ := pr1_ok C hn i (rd x i) y (hx i (by omega)) hy y.length 0 s A c (by omega) (by omega) hs
    obtain ⟨s', g1, g2⟩ := pr0_ok C hn x y hl hx hy d (i + 1) s1 _ (c + 144) (by omega) (by omega) (a2.more (by omega))
    rw [List.drop_zero] at a1
    refine ⟨s', by rw [a1]; exact g1, (g2.more (by omega)).congr (fun j hj => ?_)⟩
    have es : sumF i (d + 1) (fun i => rd x i * sumF 0 y.length (fun k => rd y k * cycW n j (i + k))) = rd x i * sumF 0 y.length (fun k => rd y k * cycW n j (i + k)) + sumF (i + 1) d (fun i => rd x i * sumF 0 y.length (fun k => rd y k * cycW n j (i + k))) := rfl
    rw [es]; omega
theorem fitsB_eq (x : Int) : fitsB x = decide (-1000000000 ≤ x ∧ x ≤ 1000000000) := by unfold fitsB; exact decide_eq_decide.2 (by omega)
theorem timesI_eq {n : Nat} (h1 : 1 ≤ n) (h2 : n ≤ 16) (x y : List Int) (hx : x.length = cycD n) (hy : y.length = cycD n) (bx : within 1000000000 x) (by_ : within 16000000000 y) :
    impl_field_times.f (n : Int) (cycD n : Int) (cycP n) x y = some (tab (cycD n) (fun m => wrap64 (bil n x y m)), okB n x y) := by
  have C := cyc_facts h1 h2
  have c12 := C.le12
  have c1 := C.pos
  unfold impl_field_times.f impl_field_product.f
  rw [if_pos (by omega), Int.toNat_natCast, if_pos (by omega)]
  have hS : Sums (cycD n) (List.replicate (cycD n) ((0 : Int), 0)) (fun _ => 0) 0 := ⟨by simp, fun j hj => ⟨⟨0, by rw [List.getElem?_replicate, if_pos hj], Nat.le_refl _⟩, by dsimp only; omega⟩⟩
  obtain ⟨s, g1, g2⟩ := pr0_ok C h1 x y (by omega) bx by_ x.length 0 _ _ 0 (by omega) (by omega) hS
  rw [List.drop_zero] at g1
  rw [g1, Option.bind_some]
  have hf : s.map (fun x => x.1) = tab (cycD n) (bil n x y) := by
    refine List.ext_getElem? (fun j => ?_)
    rw [List.getElem?_map]
    by_cases hj : j < cycD n
    · obtain ⟨⟨q, e, _⟩, _⟩ := g2.2 j hj
      rw [e, Option.map_some]
      dsimp only
      rw [Int.zero_add]
      unfold tab
      rw [List.getElem?_map, List.getElem?_range hj, Option.map_some]; rfl
    · rw [List.getElem?_eq_none (by rw [g2.1]; omega), List.getElem?_eq_none (by rw [tab_length]; omega)]; rfl
  unfold impl_values.f
  rw [if_pos, if_pos (by rw [g2.1]; omega)]
  · have e1 : s.map (fun x => wrap64 x.1) = tab (cycD n) (fun m => wrap64 (bil n x y m)) := by
      have : s.map (fun x => wrap64 x.1) = (s.map (fun x => x.1)).map wrap64 := by rw [List.map_map]; rfl
      rw [this, hf]
      unfold tab
      rw [List.map_map]; rfl
    have e2 : s.all (fun x => fitsB x.1) = okB n x y := by
      unfold okB
      rw [← hf]
      unfold smallL
      rw [List.all_map]
      exact congrArg (fun f => s.all f) (funext fun z => fitsB_eq z.1)
    rw [e1, e2]
  · rw [List.all_eq_true]
    intro z hz
    obtain ⟨j, hj, rfl⟩ := List.mem_iff_getElem.1 hz
    obtain ⟨⟨q, e, hq⟩, _⟩ := g2.2 j (by rw [← g2.1]; exact hj)
    rw [List.getElem?_eq_getElem hj] at e
    rw [Option.some.inj e]
    simp only [decide_eq_true_eq]
    omega

/-! 408_all -/
theorem whole_eq {n : Nat} (h1 : 1 ≤ n) (h2 : n ≤ 16) (a : Int) : impl_field_whole.f (n : Int) (cycD n : Int) (cycP n) a = some (tab (cycD n) fun m => if m = 0 then a else 0) := by
  have C := cyc_facts h1 h2
  have := C.le12
  have := C.pos
  unfold impl_field_whole.f
  rw [if_pos (by omega), if_pos (by omega), Option.bind_some, Int.toNat_natCast, if_pos (by rw [List.length_replicate]; omega), tab_zero]
  have e : (0 : Int).toNat = 0 := rfl
  rw [e, tab_set]
  refine congrArg some (tab_congr (fun m _ => ?_))
  by_cases c : m = 0
  · rw [if_pos c, if_pos c.symm]
  · rw [if_neg c, if_neg (fun e => c e.symm)]
theorem timesI_mul {n : Nat} (h1 : 1 ≤ n) (h2 : n ≤ 16) {x y : List Int} (hx : GoodZ n x) (hy : FairZ n y) : ∃ R, impl_field_times.f (n : Int) (cycD n : Int) (cycP n) x y = some (R, okB n x y) ∧ mulO n x y = if okB n x y = true then some R else none := by
  refine ⟨_, timesI_eq h1 h2 x y hx.1 hy.1 hx.2 hy.2, ?_⟩
  unfold mulO
  by_cases c : okB n x y = true
  · rw [if_pos c, if_pos c]
    refine congrArg some (tab_congr (fun m hm => ?_))
    have := smallL_tab.1 c m hm
    exact (wrap_id (by omega) (by omega)).symm
  · rw [if_neg c, if_neg c]
def allR : Option (List Int) → List Int × Bool
  | some R => (R, true)
  | none => ([], false)
theorem all_l0 {n : Nat} (h1 : 1 ≤ n) (h2 : n ≤ 16) (ys : List (List Int)) (hl : ys.length < 4611686018427387904) (hys : ∀ y ∈ ys, FairZ n y) : ∀ (d i : Nat) (z : List Int), i + d = ys.length → GoodZ n z →
    Ev (fun k => impl_field_all.l0 k z ys (ys.length : Int) (i : Int) (n : Int) (cycD n : Int) (cycP n)) (allR (runO n (ys.drop i) z))
  | 0, i, z, hi, hz => by
    rw [List.drop_of_length_le (by omega)]
    exact Ev.step (fun k => by rw [impl_field_all.l0, if_neg (by omega)]; rfl) (Ev.now _)
  | d + 1, i, z, hi, hz => by
    have hd : ys.drop i = ys[i]'(by omega) :: ys.drop (i + 1) := List.drop_eq_getElem_cons (by omega)
    have er : rd_L1 ys (i : Int) = ys[i]'(by omega) := by
      unfold rd_L1
      rw [Int.toNat_natCast, List.getD_eq_getElem?_getD, List.getElem?_eq_getElem (by omega), Option.getD_some]
    have hy : FairZ n (ys[i]'(by omega)) := hys _ (List.getElem_mem _)
    obtain ⟨R, t1, t2⟩ := timesI_mul h1 h2 hz hy
    rw [hd]
    generalize ys[i]'(by omega) = y at *
    refine Ev.step (fun k => by rw [impl_field_all.l0, if_pos (by omega), if_pos (by omega), if_pos (by omega), er, t1, Option.bind_some, wrap_idx i (by omega)]) ?_
    unfold runO
    by_cases c : okB n z y = true
    · rw [if_pos c] at t2
      rw [t2, Option.bind_some]
      refine ev_ifp c ?_
      exact all_l0 h1 h2 ys hl hys d (i + 1) R (by omega) (mulO_good t2)
    · rw [if_neg c] at t2
      rw [t2, Option.bind_none]
      exact ev_ifn c (Ev.now _)
theorem all_ev {n : Nat} (h1 : 1 ≤ n) (h2 : n ≤ 16) (ys : List (List Int)) (hl : ys.length < 4611686018427387904) (hys : ∀ y ∈ ys, FairZ n y) :
    Ev (fun k => impl_field_all.f k (n : Int) (cycD n : Int) (cycP n) ys) (allR (runO n ys (oneT n))) := by
  unfold impl_field_all.f
  rw [whole_eq h1 h2]
  refine ev_some ?_
  have h := all_l0 h1 h2 ys hl hys ys.length 0 (oneT n) (by omega) (oneT_good n)
  rw [List.drop_zero] at h
  exact h

/-! 409_actS -/
def actOut (n : Int) : Option (List Int) → Int × List Int × Int
  | some R => (n, R, 0)
  | none => (0, [], 3)
theorem actS_l2 {n : Nat} (h1 : 1 ≤ n) (h2 : n ≤ 16) (U : List Int) (i : Nat) (m : Int) (r x : List Int) (y : List Int) (hy : FairZ n y) (rest : List (List Int)) (hi : i < 1000)
    (next : ∀ z, GoodZ n z → Ev (fun k => spec_ActOnCyclo.l1 k U ((i + 1 : Nat) : Int) m r (n : Int) x (n : Int) z) (actOut n (runO n rest z))) : ∀ (c : Nat) (z : List Int), c ≤ 1000000000 → GoodZ n z →
    Ev (fun k => spec_ActOnCyclo.l2 k U (i : Int) (c : Int) m r (n : Int) x (n : Int) z (n : Int) y) (actOut n (runO n (List.replicate c y ++ rest) z))
  | 0, z, hc, hz => by
    refine Ev.step (fun k => by rw [spec_ActOnCyclo.l2, if_neg (by omega), wrap_idx i (by omega)]) ?_
    exact next z hz
  | c + 1, z, hc, hz => by
    obtain ⟨R, t1, t2⟩ := times01_ev h1 h2 (n : Int) z y hz.1 hy.1 hz.2 hy.2
    have e : wrap64 (((c + 1 : Nat) : Int) - 1) = (c : Int) := by unfold wrap64; omega
    refine Ev.step (fun k => by rw [spec_ActOnCyclo.l2, if_pos (by omega), e]) (Ev.bind t1 ?_)
    rw [List.replicate_succ, List.cons_append]
    unfold runO mulO
    by_cases b : okB n z y = true
    · rw [if_pos b, Option.bind_some]
      refine ev_ifp b ?_
      have hR := t2 b
      subst hR
      exact actS_l2 h1 h2 U i m r x y hy rest hi next c _ (by omega) ⟨tab_length _ _, smallL_within.1 b⟩
    · rw [if_neg b, Option.bind_none]
      exact ev_ifn b (Ev.now _)
theorem actS_l1 {n : Nat} (h1 : 1 ≤ n) (h2 : n ≤ 16) (U : List Int) (hU : ∀ i : Nat, i < U.length → 0 ≤ rd U i ∧ rd U i ≤ 1000) (hUl : U.length ≤ 100) (m : Int) (r x : List Int) (hr : r.length = U.length) (hr0 : ∀ i : Nat, i < r.length → 0 ≤ rd r i ∧ rd r i ≤ 1000000000) (hx : GoodZ n x) : ∀ (d i : Nat) (z : List Int), i + d = U.length → GoodZ n z →
    Ev (fun k => spec_ActOnCyclo.l1 k U (i : Int) m r (n : Int) x (n : Int) z) (actOut n (runO n (imgs n x U r d i) z))
  | 0, i, z, hi, hz => Ev.step (fun k => by rw [spec_ActOnCyclo.l1, if_neg (by omega)]; rfl) (Ev.now _)
  | d + 1, i, z, hi, hz => by
    have C := cyc_facts h1 h2
    have := C.le12
    have hu := hU i (by omega)
    have hri := hr0 i (by omega)
    refine Ev.step (fun k => by rw [spec_ActOnCyclo.l1, if_pos (by omega), if_pos (by omega)]) (Ev.bind (gal_ev h1 h2 x (rd U i) (by rw [hx.1]; omega) hu.1 hu.2) (ev_ifp (show (i : Int) < (r.length : Int) by omega) ?_))
    have e : rd r i = ((rd r i).toNat : Int) := (Int.toNat_of_nonneg hri.1).symm
    unfold imgs
    rw [e, Int.toNat_natCast]
    exact actS_l2 h1 h2 U i m r x _ (imT_fair C h1 hx _) _ (by omega) (fun z hz => actS_l1 h1 h2 U hU hUl m r x hr hr0 hx d (i + 1) z (by omega) hz) _ z (by omega) hz
def mnF (a : Int) (l : List Int) : Int := l.foldl mn a
theorem mnF_neg : ∀ (l : List Int) (a : Int), mnF a l < 0 ↔ a < 0 ∨ ∃ x ∈ l, x < 0
  | [], a => by simp [mnF]
  | x :: t, a => by
    have e : mnF a (x :: t) = mnF (mn a x) t := rfl
    have em : mn a x < 0 ↔ a < 0 ∨ x < 0 := by unfold mn; by_cases c : x < a <;> simp only [c, if_true, if_false] <;> omega
    rw [e, mnF_neg t, em]
    simp only [List.mem_cons, exists_eq_or_imp, or_assoc]
theorem actS_l0 (m n : Int) (r x : List Int) (hb : r.length < 4611686018427387904) (V : Int × List Int × Int)
    (next : Ev (fun k => if m = n then (if mnF 0 r < 0 then (spec_ActOnCyclo.j2 k true m r n x) else (spec_ActOnCyclo.j2 k (decide (wsum 0 r > 60)) m r n x)) else (spec_ActOnCyclo.j2 k true m r n x)) V) : ∀ (d i : Nat) (s a : Int), i + d = r.length → wsum s (r.drop i) = wsum 0 r → mnF a (r.drop i) = mnF 0 r →
    Ev (fun k => spec_ActOnCyclo.l0 k s a (i : Int) m r n x) V
  | 0, i, s, a, hi, h1, h2 => by
    rw [List.drop_of_length_le (by omega)] at h1 h2
    have e1 : s = wsum 0 r := h1
    have e2 : a = mnF 0 r := h2
    refine Ev.step (fun k => by rw [spec_ActOnCyclo.l0, if_neg (by omega), e1, e2]) ?_
    exact next
  | d + 1, i, s, a, hi, h1, h2 => by
    rw [drop_at r i (by omega)] at h1 h2
    refine Ev.step (fun k => by rw [spec_ActOnCyclo.l0, if_pos (by omega), if_pos (by omega), wrap_idx i (by omega)]) ?_
    exact actS_l0 m n r x hb V next d (i + 1) _ _ (by omega) h1 h2
/-- What an element of a group ring does to a cyclotomic number. -/
def actR (m : Int) (r : List Int) (n : Int) (x : List Int) : Int × List Int × Int :=
  if ringB m r = true ∧ cycloB n x = true then
    (if m = n ∧ ¬ mnF 0 r < 0 ∧ ¬ wsum 0 r > 60 then actOut n (runO n.toNat (imgs n.toNat x (unitsL n) r (unitsL n).length 0) (oneT n.toNat)) else (0, [], 2))
  else (0, [], 1)
theorem actR_facts {m n : Int} {r x : List Int} (hr : ringB m r = true) (hx : cycloB n x = true) (hm : m = n) (hn : ¬ mnF 0 r < 0) :
    ∃ N : Nat, n = (N : Int) ∧ 1 ≤ N ∧ N ≤ 16 ∧ GoodZ N x ∧ r.length = (unitsL n).length ∧ (unitsL n).length = cycD N ∧ (∀ i : Nat, i < (unitsL n).length → 0 ≤ rd (unitsL n) i ∧ rd (unitsL n) i ≤ 1000) ∧ (∀ i : Nat, i < r.length → 0 ≤ rd r i ∧ rd r i ≤ 1000000000) := by
  subst hm
  obtain ⟨a1, a2, a3, a4⟩ := ringB_len hr
  obtain ⟨b1, b2, b3, b4⟩ := cycloB_len hx
  have e : m = (m.toNat : Int) := by omega
  have C := cyc_facts (n := m.toNat) (by omega) (by omega)
  have hu := C.units
  rw [← e] at hu
  refine ⟨m.toNat, e, by omega, by omega, ⟨by omega, smallL_within.1 b4⟩, a3, hu, fun i hi => ?_, fun i hi => ?_⟩
  · have := mem_upto.1 (List.mem_filter.1 (List.getElem_mem hi)).1
    rw [rd_nat _ _ hi]
    omega
  · have h1 := smallL_within.1 a4 i hi
    have h2 : ¬ rd r i < 0 := fun h => hn ((mnF_neg r 0).2 (Or.inr ⟨rd r i, by rw [rd_nat _ _ hi]; exact List.getElem_mem hi, h⟩))
    omega
theorem actS_ev (m : Int) (r : List Int) (n : Int) (x : List Int) (hr : r.length < 4611686018427387904) (hx : x.length < 4611686018427387904) : Ev (fun k => spec_ActOnCyclo.f k m r n x) (actR m r n x) := by
  unfold spec_ActOnCyclo.f actR
  refine Ev.bind (is10_ev m r hr) ?_
  by_cases b1 : ringB m r = true
  · refine ev_ifp b1 (Ev.bind (is01_ev n x hx) ?_)
    by_cases b2 : cycloB n x = true
    · rw [if_pos ⟨b1, b2⟩, b2]
      refine Ev.step (fun k => by rw [spec_ActOnCyclo.j0, if_neg (by decide)]) ?_
      refine actS_l0 m n r x hr _ ?_ r.length 0 0 0 (by omega) (by rw [List.drop_zero]) (by rw [List.drop_zero])
      have bad : Ev (fun k => spec_ActOnCyclo.j2 k true m r n x) (0, [], 2) := Ev.step (fun k => by rw [spec_ActOnCyclo.j2, if_pos rfl]) (Ev.now _)
      by_cases c1 : m = n
      · refine ev_ifp c1 ?_
        by_cases c2 : mnF 0 r < 0
        · rw [if_neg (fun h => h.2.1 c2)]
          exact ev_ifp c2 bad
        · refine ev_ifn c2 ?_
          by_cases c3 : wsum 0 r > 60
          · rw [if_neg (fun h => h.2.2 c3), decide_eq_true c3]; exact bad
          · rw [if_pos ⟨c1, c2, c3⟩, decide_eq_false c3]
            obtain ⟨N, e, n1, n2, hg, l1, l2, hU, hR⟩ := actR_facts b1 b2 c1 c2
            subst e
            have C := cyc_facts n1 n2
            have := C.le12
            refine Ev.step (fun k => by rw [spec_ActOnCyclo.j2, if_neg (by decide)]) ?_
            refine Ev.bind (one01_ev n1 n2) (Ev.bind (s_units (N : Int) (by omega)) ?_)
            rw [Int.toNat_natCast]
            exact actS_l1 n1 n2 (unitsL (N : Int)) hU (by omega) m r x l1 hR hg (unitsL (N : Int)).length 0 (oneT N) (by omega) (oneT_good N)
      · rw [if_neg (fun h => c1 h.1)]
        exact ev_ifn c1 bad
    · rw [if_neg (fun h => b2 h.2)]
      have e : cycloB n x = false := by simpa using b2
      rw [e]
      exact Ev.step (fun k => by rw [spec_ActOnCyclo.j0, if_pos (by decide)]) (Ev.now _)
  · rw [if_neg (fun h => b1 h.1)]
    refine ev_ifn b1 ?_
    exact Ev.step (fun k => by rw [spec_ActOnCyclo.j0, if_pos rfl]) (Ev.now _)

/-! 410_actI -/
theorem actI_l1 {n : Nat} (h1 : 1 ≤ n) (h2 : n ≤ 16) (U : List Int) (u : Int) (hu : 0 ≤ u ∧ u ≤ 1000) (i : Nat) (hi : i < 1000) (m : Int) (r x : List Int) (hx : x.length ≤ 100) (b : Nat) (hb : b ≤ 1000000000) (V : Int × List Int × Int) : ∀ (d c : Nat) (acc : List (List Int)), c + d = b → acc.length + d ≤ 4000000000000 →
    Ev (fun k => impl_ActOnCyclo.l0 k (acc ++ List.replicate d (imT n x u)) U (U.length : Int) ((i + 1 : Nat) : Int) m r (n : Int) x (n : Int) (cycD n : Int) (cycP n)) V →
    Ev (fun k => impl_ActOnCyclo.l1 k acc u U (U.length : Int) (i : Int) (b : Int) (c : Int) m r (n : Int) x (n : Int) (cycD n : Int) (cycP n)) V
  | 0, c, acc, hc, ha, h => by
    refine Ev.step (fun k => by rw [impl_ActOnCyclo.l1, if_neg (by omega), wrap_idx i (by omega)]) ?_
    rw [List.replicate_zero, List.append_nil] at h
    exact h
  | d + 1, c, acc, hc, ha, h => by
    refine Ev.step (fun k => by rw [impl_ActOnCyclo.l1, if_pos (by omega), wrap_idx c (by omega)]) (Ev.bind (image_ev h1 h2 x u hx hu.1 hu.2) (ev_ifp (show acc.length < 5864062014805 by omega) ?_))
    refine actI_l1 h1 h2 U u hu i hi m r x hx b hb V d (c + 1) (acc ++ [imT n x u]) (by omega) (by rw [List.length_append, List.length_singleton]; omega) ?_
    rw [List.append_assoc]
    exact h
theorem actI_l0 {n : Nat} (h1 : 1 ≤ n) (h2 : n ≤ 16) (U : List Int) (hU : ∀ i : Nat, i < U.length → 0 ≤ rd U i ∧ rd U i ≤ 1000) (hUl : U.length ≤ 100) (m : Int) (r x : List Int) (hr : r.length = U.length) (hr0 : ∀ i : Nat, i < r.length → 0 ≤ rd r i ∧ rd r i ≤ 1000000000) (hx : x.length ≤ 100) (V : Int × List Int × Int) : ∀ (d i : Nat) (acc : List (List Int)), i + d = U.length → acc.length ≤ i * 1000000000 →
    Ev (fun k => (impl_field_all.f k (n : Int) (cycD n : Int) (cycP n) (acc ++ imgs n x U r d i)).bind fun bt => if bt.2 = true then (impl_cycloOf.f (n : Int) bt.1).bind fun bt2 => some (bt2.1, bt2.2.1, bt2.2.2) else some (0, [], 3)) V →
    Ev (fun k => impl_ActOnCyclo.l0 k acc U (U.length : Int) (i : Int) m r (n : Int) x (n : Int) (cycD n : Int) (cycP n)) V
  | 0, i, acc, hi, ha, h => by
    refine Ev.step (fun k => by rw [impl_ActOnCyclo.l0, if_neg (by omega)]) ?_
    have e : imgs n x U r 0 i = [] := rfl
    rw [e, List.append_nil] at h
    exact h
  | d + 1, i, acc, hi, ha, h => by
    have hu := hU i (by omega)
    have hri := hr0 i (by omega)
    have e : rd r i = ((rd r i).toNat : Int) := (Int.toNat_of_nonneg hri.1).symm
    refine Ev.step (fun k => by rw [impl_ActOnCyclo.l0, if_pos (by omega), if_pos (by omega), if_pos (by omega), if_pos (by omega), e]) ?_
    refine actI_l1 h1 h2 U (rd U i) hu i (by omega) m r x hx (rd r i).toNat (by omega) V (rd r i).toNat 0 acc (by omega) (by omega) ?_
    refine actI_l0 h1 h2 U hU hUl m r x hr hr0 hx V d (i + 1) _ (by omega) (by rw [List.length_append, List.length_replicate]; omega) ?_
    rw [List.append_assoc]
    exact h
theorem imgs_length (n : Nat) (x U r : List Int) (hr0 : ∀ i : Nat, i < r.length → 0 ≤ rd r i ∧ rd r i ≤ 1000000000) : ∀ (d i : Nat), i + d ≤ r.length → (imgs n x U r d i).length ≤ d * 1000000000
  | 0, i, _ => Nat.le_refl _
  | d + 1, i, h => by
    have a := imgs_length n x U r hr0 d (i + 1) (by omega)
    have b := hr0 i (by omega)
    unfold imgs
    rw [List.length_append, List.length_replicate]
    omega
theorem min_l0 (r : List Int) (hb : r.length < 4611686018427387904) : ∀ (d i : Nat) (a : Int), i + d = r.length → Ev (fun k => slices_Min_int64_int64.l0 k r a (i : Int)) (mnF a (r.drop i))
  | 0, i, a, hi => by
    rw [List.drop_of_length_le (by omega)]
    exact Ev.step (fun k => by rw [slices_Min_int64_int64.l0, if_neg (by omega)]; rfl) (Ev.now _)
  | d + 1, i, a, hi => by
    rw [drop_at r i (by omega)]
    refine Ev.step (fun k => by rw [slices_Min_int64_int64.l0, if_pos (by omega), if_pos (by omega), wrap_idx i (by omega)]) ?_
    exact min_l0 r hb d (i + 1) _ (by omega)
theorem min_ev (r : List Int) (hb : r.length < 4611686018427387904) (h1 : 1 ≤ r.length) : ∃ v, Ev (fun k => slices_Min_int64_int64.f k r) v ∧ (v < 0 ↔ mnF 0 r < 0) := by
  refine ⟨mnF (rd r 0) (r.drop 1), ?_, ?_⟩
  · unfold slices_Min_int64_int64.f
    refine ev_ifn (by omega) (Ev.step (fun k => by rw [slices_Min_int64_int64.j0, if_pos (by omega)]) ?_)
    exact min_l0 r hb (r.length - 1) 1 _ (by omega)
  · rw [mnF_neg, mnF_neg]
    have e := drop_at r 0 (by omega)
    rw [List.drop_zero] at e
    constructor
    · rintro (h | ⟨y, hy, h⟩)
      · exact Or.inr ⟨rd r 0, by rw [e]; exact List.mem_cons_self .., h⟩
      · exact Or.inr ⟨y, by rw [e]; exact List.mem_cons_of_mem _ hy, h⟩
    · rintro (h | ⟨y, hy, h⟩)
      · omega
      · rw [e] at hy
        rcases List.mem_cons.1 hy with rfl | hy
        · exact Or.inl h
        · exact Or.inr ⟨y, hy, h⟩
theorem actI_ev (m : Int) (r : List Int) (n : Int) (x : List Int) (hr : r.length < 4611686018427387904) : Ev (fun k => impl_ActOnCyclo.f k m r n x) (actR m r n x) := by
  unfold impl_ActOnCyclo.f actR
  refine Ev.bind (isRing_ev m r) ?_
  by_cases b1 : ringB m r = true
  · refine ev_ifp b1 (Ev.bind (isCyclo_ev n x) ?_)
    by_cases b2 : cycloB n x = true
    · rw [if_pos ⟨b1, b2⟩, b2]
      refine Ev.step (fun k => by rw [impl_ActOnCyclo.j0, if_neg (by decide)]) ?_
      by_cases c1 : m = n
      · refine ev_ifp c1 ?_
        obtain ⟨a1, a2, a3, a4⟩ := ringB_len b1
        obtain ⟨v, v1, v2⟩ := min_ev r hr (by
          have : 0 < (unitsL m).length := by
            refine List.length_pos_of_mem (a := 1) ?_
            unfold unitsL
            rw [List.mem_filter]
            refine ⟨mem_upto.2 ⟨by omega, by omega⟩, ?_⟩
            simp
          omega)
        refine Ev.bind v1 ?_
        by_cases c2 : mnF 0 r < 0
        · rw [if_neg (fun h => h.2.1 c2)]
          exact ev_ifp (v2.2 c2) (Ev.now _)
        · refine ev_ifn (fun h => c2 (v2.1 h)) (Ev.bind (total_ev r hr) ?_)
          by_cases c3 : wsum 0 r > 60
          · rw [if_neg (fun h => h.2.2 c3)]
            exact ev_ifp c3 (Ev.now _)
          · rw [if_pos ⟨c1, c2, c3⟩]
            refine ev_ifn c3 ?_
            obtain ⟨N, e, n1, n2, hg, l1, l2, hU, hR⟩ := actR_facts b1 b2 c1 c2
            subst e
            have C := cyc_facts n1 n2
            have := C.le12
            refine Ev.bind (field_ev n1 n2) (Ev.bind (i_units (N : Int) (by omega)) ?_)
            rw [Int.toNat_natCast]
            have hil := imgs_length N x (unitsL (N : Int)) r hR (unitsL (N : Int)).length 0 (by omega)
            refine actI_l0 n1 n2 (unitsL (N : Int)) hU (by omega) m r x l1 hR (by rw [hg.1]; omega) _ (unitsL (N : Int)).length 0 [] (by omega) (Nat.zero_le _) ?_
            rw [List.nil_append]
            refine Ev.bind (all_ev n1 n2 _ (by omega) (imgs_fair C n1 hg _ _ _ _)) ?_
            cases hrun : runO N (imgs N x (unitsL (N : Int)) r (unitsL (N : Int)).length 0) (oneT N) with
            | none => exact Ev.now _
            | some R =>
              have hs := good_small (runO_good _ _ _ (oneT_good N) hrun)
              refine ev_ifp rfl ?_
              unfold impl_cycloOf.f
              have e : allR (some R) = (R, true) := rfl
              rw [e, small_eq, hs]
              exact Ev.now _
      · rw [if_neg (fun h => c1 h.1)]
        exact ev_ifn c1 (Ev.now _)
    · rw [if_neg (fun h => b2 h.2)]
      have e : cycloB n x = false := by simpa using b2
      rw [e]
      exact Ev.step (fun k => by rw [impl_ActOnCyclo.j0, if_pos (by decide)]) (Ev.now _)
  · rw [if_neg (fun h => b1 h.1)]
    refine ev_ifn b1 ?_
    exact Ev.step (fun k => by rw [impl_ActOnCyclo.j0, if_pos rfl]) (Ev.now _)
theorem actR_len (m : Int) (r : List Int) (n : Int) (x : List Int) : (actR m r n x).2.1.length ≤ 1000 := by
  unfold actR
  by_cases c : ringB m r = true ∧ cycloB n x = true
  · rw [if_pos c]
    by_cases c2 : m = n ∧ ¬ mnF 0 r < 0 ∧ ¬ wsum 0 r > 60
    · rw [if_pos c2]
      obtain ⟨N, e, n1, n2, hg, l1, l2, hU, hR⟩ := actR_facts c.1 c.2 c2.1 c2.2.1
      subst e
      have := (cyc_facts n1 n2).le12
      rw [Int.toNat_natCast]
      cases hrun : runO N (imgs N x (unitsL (N : Int)) r (unitsL (N : Int)).length 0) (oneT N) with
      | none => exact Nat.zero_le _
      | some R =>
        have h := (runO_good _ _ _ (oneT_good N) hrun).1
        show R.length ≤ 1000
        omega
    · rw [if_neg c2]; exact Nat.zero_le _
  · rw [if_neg c]; exact Nat.zero_le _

end Go.Proofs.Ytdnpkbhapdkikaa.FnExactActOnCycloQ
