/- Facts on what the printed functions tell. -/
import Derived.Test.YtlohlekofckcgaaZF1
import Derived.Test.YtlohlekofckcgaaZV
/- Facts on the printed functions of the first layer: ranges, divisors, totients, lists. -/
namespace Go.Proofs.Ytlohlekofckcgaa.F
open Go.RowKit Go.Proofs.Ytlohlekofckcgaa.R
set_option linter.unusedVariables false
set_option linter.unusedSimpArgs false
theorem by16 {P : Nat → Prop} (h1 : P 1) (h2 : P 2) (h3 : P 3) (h4 : P 4) (h5 : P 5) (h6 : P 6) (h7 : P 7) (h8 : P 8) (h9 : P 9) (h10 : P 10) (h11 : P 11) (h12 : P 12) (h13 : P 13) (h14 : P 14) (h15 : P 15) (h16 : P 16) : ∀ n : Nat, 1 ≤ n → n ≤ 16 → P n
  | 1, _, _ => h1 | 2, _, _ => h2 | 3, _, _ => h3 | 4, _, _ => h4 | 5, _, _ => h5 | 6, _, _ => h6 | 7, _, _ => h7 | 8, _, _ => h8
  | 9, _, _ => h9 | 10, _, _ => h10 | 11, _, _ => h11 | 12, _, _ => h12 | 13, _, _ => h13 | 14, _, _ => h14 | 15, _, _ => h15 | 16, _, _ => h16
  | 0, h, _ => absurd h (by omega)
  | n + 17, _, h => absurd h (by omega)
theorem le_ex {K k : Nat} (h : K ≤ k) : ∃ j, k = j + K := ⟨k - K, by omega⟩
theorem tmod_lt {a n : Int} (hn : 1 ≤ n) : -n < Int.tmod a n ∧ Int.tmod a n < n := ⟨Int.lt_tmod_of_pos a (by omega), Int.tmod_lt_of_pos a (by omega)⟩
theorem tmod_emod (a n : Int) : Int.tmod a n % n = a % n := by
  rw [Int.tmod_def, Int.sub_mul_emod_self_left]
theorem tmod_zero {a n : Int} : Int.tmod a n = 0 ↔ a % n = 0 := by
  rw [← Int.dvd_iff_tmod_eq_zero, Int.dvd_iff_emod_eq_zero]
section
variable {A : Type} (z : A)
theorem within_eq (k : Nat) (a lo hi : Int) (Φ : Bool → A) : impl_within z (k + 1) a lo hi Φ = Φ (decide (lo ≤ a ∧ a ≤ hi)) := by
  simp only [impl_within, step_succ]
  by_cases h : lo ≤ a <;> simp [h]
theorem in_eq (k : Nat) (a lo hi : Int) (Φ : Bool → A) : spec_l01In z (k + 1) a lo hi Φ = Φ (decide (lo ≤ a ∧ a ≤ hi)) := by
  simp only [spec_l01In, step_succ]
  by_cases h : lo ≤ a <;> simp [h]
theorem isOrder_eq (k : Nat) (n : Int) (Φ : Bool → A) : impl_isOrder z (k + 2) n Φ = Φ (decide (1 ≤ n ∧ n ≤ 16)) := by
  simp only [impl_isOrder, step_succ, within_eq]
theorem around_eq (k : Nat) {a n : Int} (hn : 1 ≤ n) (hn2 : n ≤ 1000000) (Φ : Int → A) : impl_around z (k + 1) a n Φ = Φ (a % n) := by
  obtain ⟨a0, a1⟩ := tmod_lt (a := a) hn
  simp only [impl_around, step_succ]
  rw [gd_ok z (by omega), gd_ok z (by omega), w64_id (by omega) (by omega), Int.tmod_eq_emod_of_nonneg (by omega), Int.add_emod_right, tmod_emod]
/-! divisors -/
theorem igcd_g {K0 : Int → A} : ∀ (d k : Nat) (a b : Int), 0 ≤ a → 0 ≤ b → b.toNat ≤ d → d < k → impl_gcd.g3 z k a b K0 = K0 (Int.gcd a b)
  | d, 0, a, b, _, _, _, hk => absurd hk (by omega)
  | d, k + 1, a, b, ha, hb, hd, hk => by
    rw [impl_gcd.g3]
    by_cases h : 0 < b
    · have h1 := Int.tmod_lt_of_pos a h
      have h2 := Int.tmod_nonneg b ha
      rw [if_pos h, gd_ok z (by omega)]
      cases d with
      | zero => omega
      | succ d => rw [igcd_g d k b _ hb h2 (by omega) (by omega), gcd_tmod a b ha h]
    · have : b = 0 := by omega
      subst this
      rw [if_neg h, Int.gcd_zero_right, Int.natAbs_of_nonneg ha]
theorem size_eq (k : Nat) {a : Int} (h : -9223372036854775808 < a ∧ a ≤ 9223372036854775807) (Φ : Int → A) : impl_size z (k + 1) a Φ = Φ (a.natAbs : Int) := by
  simp only [impl_size, step_succ]
  rw [w64_id (by omega) (by omega)]
  congr 1
  unfold maxI
  split <;> omega
theorem igcd_eq {a b : Int} (ha : -9223372036854775808 < a ∧ a ≤ 9223372036854775807) (hb : -9223372036854775808 < b ∧ b ≤ 9223372036854775807) (k : Nat) (hk : b.natAbs + 2 ≤ k) (Φ : Int → A) : impl_gcd z k a b Φ = Φ (Int.gcd a b) := by
  obtain ⟨j, rfl, hj⟩ := up hk
  obtain ⟨i, rfl, hi⟩ := up hj
  simp only [impl_gcd, step_succ]
  rw [size_eq z i ha, size_eq z i hb, igcd_g z b.natAbs (i + 1) _ _ (by omega) (by omega) (by omega) (by omega)]
  simp [Int.gcd]
theorem sgcd_g {K0 : Int → A} : ∀ (d k : Nat) (a b : Int), 0 ≤ a → 0 ≤ b → b.toNat ≤ d → d < k → spec_l01Gcd.g2 z k a b K0 = K0 (Int.gcd a b)
  | d, 0, a, b, _, _, _, hk => absurd hk (by omega)
  | d, k + 1, a, b, ha, hb, hd, hk => by
    rw [spec_l01Gcd.g2]
    by_cases h : b ≠ 0
    · have hp : 0 < b := by omega
      have h1 := Int.tmod_lt_of_pos a hp
      have h2 := Int.tmod_nonneg b ha
      rw [if_pos h, gd_ok z h]
      cases d with
      | zero => omega
      | succ d => rw [sgcd_g d k b _ hb h2 (by omega) (by omega), gcd_tmod a b ha hp]
    · have : b = 0 := by omega
      subst this
      rw [if_neg h, Int.gcd_zero_right, Int.natAbs_of_nonneg ha]
theorem sgcd_eq {a b : Int} (ha : 0 ≤ a ∧ a ≤ 9223372036854775807) (hb : 0 ≤ b ∧ b ≤ 9223372036854775807) (k : Nat) (hk : b.natAbs + 2 ≤ k) (Φ : Int → A) : spec_l01Gcd z k a b Φ = Φ (Int.gcd a b) := by
  obtain ⟨j, rfl, hj⟩ := up hk
  simp only [spec_l01Gcd, step_succ]
  rw [sgcd_g z b.natAbs j _ _ ha.1 hb.1 (by omega) (by omega)]
  have hg : (Int.gcd a b : Int) ≤ 9223372036854775807 := by
    unfold Int.gcd
    rcases Nat.eq_zero_or_pos a.natAbs with h | h
    · rw [h, Nat.gcd_zero_left]; omega
    · have := Nat.gcd_le_left b.natAbs h; omega
  rw [w64_id (by omega) (by omega)]
  congr 1
  unfold maxI
  split <;> omega
theorem isPrimeTo_eq {n : Nat} (h1 : 1 ≤ n) (h2 : n ≤ 1000) (a : Int) (k : Nat) (hk : 1010 ≤ k) (Φ : Bool → A) : impl_isPrimeTo z k a n Φ = Φ (decide ((1 ≤ a ∧ a ≤ n) ∧ Int.gcd a n = 1)) := by
  obtain ⟨j, rfl, hj⟩ := up hk
  obtain ⟨i, rfl, hi⟩ := up hj
  simp only [impl_isPrimeTo, step_succ]
  rw [within_eq]
  by_cases h : 1 ≤ a ∧ a ≤ (n : Int)
  · rw [decide_eq_true h, cond_true, igcd_eq z (by omega) (by omega) _ (by omega)]
    congr 1
    simp only [h, true_and, and_self]
    congr 1
    apply propext
    omega
  · rw [decide_eq_false h, cond_false]
    simp [h]
end
/-! tables -/
theorem totient_tab : ∀ n : Nat, 1 ≤ n → n ≤ 16 → ∀ (j : Nat) (A : Type) (z : A) (Φ : Int → A), impl_totient z (j + 60) (n : Int) Φ = Φ (cycD n : Int) :=
  by16 (fun _ _ _ _ => by kernel_rfl) (fun _ _ _ _ => by kernel_rfl) (fun _ _ _ _ => by kernel_rfl) (fun _ _ _ _ => by kernel_rfl) (fun _ _ _ _ => by kernel_rfl) (fun _ _ _ _ => by kernel_rfl) (fun _ _ _ _ => by kernel_rfl) (fun _ _ _ _ => by kernel_rfl) (fun _ _ _ _ => by kernel_rfl) (fun _ _ _ _ => by kernel_rfl) (fun _ _ _ _ => by kernel_rfl) (fun _ _ _ _ => by kernel_rfl) (fun _ _ _ _ => by kernel_rfl) (fun _ _ _ _ => by kernel_rfl) (fun _ _ _ _ => by kernel_rfl) (fun _ _ _ _ => by kernel_rfl)
theorem phi_tab : ∀ n : Nat, 1 ≤ n → n ≤ 16 → ∀ (j : Nat) (A : Type) (z : A) (Φ : Int → A), spec_l01Phi z (j + 60) (n : Int) Φ = Φ (cycD n : Int) :=
  by16 (fun _ _ _ _ => by kernel_rfl) (fun _ _ _ _ => by kernel_rfl) (fun _ _ _ _ => by kernel_rfl) (fun _ _ _ _ => by kernel_rfl) (fun _ _ _ _ => by kernel_rfl) (fun _ _ _ _ => by kernel_rfl) (fun _ _ _ _ => by kernel_rfl) (fun _ _ _ _ => by kernel_rfl) (fun _ _ _ _ => by kernel_rfl) (fun _ _ _ _ => by kernel_rfl) (fun _ _ _ _ => by kernel_rfl) (fun _ _ _ _ => by kernel_rfl) (fun _ _ _ _ => by kernel_rfl) (fun _ _ _ _ => by kernel_rfl) (fun _ _ _ _ => by kernel_rfl) (fun _ _ _ _ => by kernel_rfl)
theorem cyclo_tab : ∀ n : Nat, 1 ≤ n → n ≤ 16 → ∀ (j : Nat) (A : Type) (z : A) (Φ : List Int → A), spec_l01Cyclotomic z (j + 200) (n : Int) Φ = Φ (cycF n) :=
  by16 (fun _ _ _ _ => by kernel_rfl) (fun _ _ _ _ => by kernel_rfl) (fun _ _ _ _ => by kernel_rfl) (fun _ _ _ _ => by kernel_rfl) (fun _ _ _ _ => by kernel_rfl) (fun _ _ _ _ => by kernel_rfl) (fun _ _ _ _ => by kernel_rfl) (fun _ _ _ _ => by kernel_rfl) (fun _ _ _ _ => by kernel_rfl) (fun _ _ _ _ => by kernel_rfl) (fun _ _ _ _ => by kernel_rfl) (fun _ _ _ _ => by kernel_rfl) (fun _ _ _ _ => by kernel_rfl) (fun _ _ _ _ => by kernel_rfl) (fun _ _ _ _ => by kernel_rfl) (fun _ _ _ _ => by kernel_rfl)
theorem field_tab : ∀ n : Nat, 1 ≤ n → n ≤ 16 → ∀ (j : Nat) (A : Type) (z : A) (Φ : Int → Int → List (List Int) → A), impl_fieldOf z (j + 200) (n : Int) Φ = Φ n (cycD n : Int) (cycP n) :=
  by16 (fun _ _ _ _ => by kernel_rfl) (fun _ _ _ _ => by kernel_rfl) (fun _ _ _ _ => by kernel_rfl) (fun _ _ _ _ => by kernel_rfl) (fun _ _ _ _ => by kernel_rfl) (fun _ _ _ _ => by kernel_rfl) (fun _ _ _ _ => by kernel_rfl) (fun _ _ _ _ => by kernel_rfl) (fun _ _ _ _ => by kernel_rfl) (fun _ _ _ _ => by kernel_rfl) (fun _ _ _ _ => by kernel_rfl) (fun _ _ _ _ => by kernel_rfl) (fun _ _ _ _ => by kernel_rfl) (fun _ _ _ _ => by kernel_rfl) (fun _ _ _ _ => by kernel_rfl) (fun _ _ _ _ => by kernel_rfl)
section
variable {A : Type} (z : A) {n : Nat} (h1 : 1 ≤ n) (h2 : n ≤ 16)
include h1 h2
theorem totient_eq (k : Nat) (hk : 60 ≤ k) (Φ : Int → A) : impl_totient z k (n : Int) Φ = Φ (cycD n : Int) := by
  obtain ⟨j, rfl⟩ := le_ex hk
  exact totient_tab n h1 h2 j A z Φ
theorem phi_eq (k : Nat) (hk : 60 ≤ k) (Φ : Int → A) : spec_l01Phi z k (n : Int) Φ = Φ (cycD n : Int) := by
  obtain ⟨j, rfl⟩ := le_ex hk
  exact phi_tab n h1 h2 j A z Φ
theorem cyclo_eq (k : Nat) (hk : 200 ≤ k) (Φ : List Int → A) : spec_l01Cyclotomic z k (n : Int) Φ = Φ (cycF n) := by
  obtain ⟨j, rfl⟩ := le_ex hk
  exact cyclo_tab n h1 h2 j A z Φ
theorem field_eq (k : Nat) (hk : 200 ≤ k) (Φ : Int → Int → List (List Int) → A) : impl_fieldOf z k (n : Int) Φ = Φ n (cycD n : Int) (cycP n) := by
  obtain ⟨j, rfl⟩ := le_ex hk
  exact field_tab n h1 h2 j A z Φ
end
end Go.Proofs.Ytlohlekofckcgaa.F
/- Facts on the printed functions of the first layer: what is told of lists. -/
namespace Go.Proofs.Ytlohlekofckcgaa.F
open Go.RowKit Go.Proofs.Ytlohlekofckcgaa.R
set_option linter.unusedVariables false
set_option linter.unusedSimpArgs false
def smallB (B : Int) (l : List Int) : Bool := l.all fun x => decide (-B ≤ x ∧ x ≤ B)
theorem small_one (l : List Int) : smallB 1000000000 l = smallL l := rfl
theorem w64_up {i : Nat} (h : i < 2000000) : w64 ((i : Int) + 1) = ((i + 1 : Nat) : Int) := by rw [w64_id (by omega) (by omega)]; omega
theorem getD_at {l : List Int} {i : Nat} (h : i < l.length) : l.getD i 0 = l[i] := by simp [List.getD_eq_getElem?_getD, h]
theorem drop_cons {l : List Int} {i : Nat} (h : i < l.length) : l.drop i = l.getD i 0 :: l.drop (i + 1) := by
  rw [getD_at h]; exact List.drop_eq_getElem_cons h
section
variable {A : Type} (z : A)
theorem index_g {l : List Int} (hl : l.length ≤ 1100000) {B : Int} (hB : 0 ≤ B ∧ B ≤ 1000000000) {K0 : Int → A} {K1 Kt : A} (hK : ∀ i : Nat, K0 (i : Int) = Kt) : ∀ (d i k : Nat), i + d = l.length → d + 4 ≤ k →
    slices_IndexFunc_Sint64_int64_c64.g3 z k l B (l.length : Int) (i : Int) K0 K1 = bif smallB B (l.drop i) then K1 else Kt
  | d, i, 0, _, hk => absurd hk (by omega)
  | 0, i, k + 1, hi, hk => by
    rw [slices_IndexFunc_Sint64_int64_c64.g3, if_neg (by omega), List.drop_eq_nil_of_le (by omega)]
    rfl
  | d + 1, i, k + 1, hi, hk => by
    obtain ⟨j, rfl, hj⟩ := up (show d + 3 + 1 ≤ k by omega)
    obtain ⟨m, rfl, hm⟩ := up hj
    have hlt : i < l.length := by omega
    rw [slices_IndexFunc_Sint64_int64_c64.g3, if_pos (by omega), inI_at z hlt]
    simp only [impl_areSmall_1, step_succ]
    rw [w64_id (by omega) (by omega), within_eq, drop_cons hlt]
    simp only [smallB, List.all_cons]
    by_cases h : 0 - B ≤ l.getD i 0 ∧ l.getD i 0 ≤ B
    · rw [decide_eq_true h, decide_eq_true (show -B ≤ l.getD i 0 ∧ l.getD i 0 ≤ B by omega), Bool.not_true, cond_false, w64_up (by omega), Bool.true_and]
      exact index_g hl hB hK d (i + 1) (m + 1 + 1) (by omega) (by omega)
    · rw [decide_eq_false h, decide_eq_false (show ¬ (-B ≤ l.getD i 0 ∧ l.getD i 0 ≤ B) by omega), Bool.not_false, cond_true, Bool.false_and, cond_false]
      exact hK i
theorem areSmall_eq {l : List Int} (hl : l.length ≤ 1100000) {B : Int} (hB : 0 ≤ B ∧ B ≤ 1000000000) (k : Nat) (hk : l.length + 8 ≤ k) (Φ : Bool → A) : impl_areSmall z k l B Φ = Φ (smallB B l) := by
  obtain ⟨k, rfl⟩ := le_ex (show 3 ≤ k by omega)
  simp only [impl_areSmall, slices_ContainsFunc_Sint64_int64_c64, slices_IndexFunc_Sint64_int64_c64, step_succ]
  have h := index_g z hl hB (K0 := fun v1 => Φ (!decide (0 ≤ v1))) (K1 := Φ (!decide ((0 : Int) ≤ -1))) (Kt := Φ false) (fun i => by rw [decide_eq_true (show (0 : Int) ≤ (i : Int) by omega), Bool.not_true]) l.length 0 k (by omega) (by omega)
  rw [List.drop_zero] at h
  refine Eq.trans h ?_
  cases smallB B l <;> rfl
theorem fits_g {l : List Int} (hl : l.length ≤ 1100000) {K0 : Bool → A} {K1 : A} : ∀ (d i k : Nat), i + d = l.length → d + 2 ≤ k →
    spec_l01Fits.g3 z k (i : Int) l K0 K1 = bif smallL (l.drop i) then K1 else K0 false
  | d, i, 0, _, hk => absurd hk (by omega)
  | 0, i, k + 1, hi, hk => by
    rw [spec_l01Fits.g3, if_neg (by omega), List.drop_eq_nil_of_le (by omega)]
    rfl
  | d + 1, i, k + 1, hi, hk => by
    obtain ⟨j, rfl, hj⟩ := up (show 1 + 1 ≤ k by omega)
    have hlt : i < l.length := by omega
    rw [spec_l01Fits.g3, if_pos (by omega), inI_at z hlt, in_eq, drop_cons hlt]
    simp only [smallL, List.all_cons]
    by_cases h : -1000000000 ≤ l.getD i 0 ∧ l.getD i 0 ≤ 1000000000
    · rw [decide_eq_true h, Bool.not_true, cond_false, w64_up (by omega), Bool.true_and]
      exact fits_g hl d (i + 1) (j + 1) (by omega) (by omega)
    · rw [decide_eq_false h, Bool.not_false, cond_true, Bool.false_and, cond_false]
theorem fits_eq {l : List Int} (hl : l.length ≤ 1100000) (n : Int) (k : Nat) (hk : l.length + 4 ≤ k) (Φ : Bool → A) : spec_l01Fits z k n l Φ = Φ (smallL l) := by
  obtain ⟨k, rfl, hk⟩ := up hk
  simp only [spec_l01Fits, step_succ]
  have h := fits_g z hl (K0 := Φ) (K1 := Φ true) l.length 0 k (by omega) (by omega)
  rw [List.drop_zero] at h
  refine Eq.trans h ?_
  cases smallL l <;> rfl
theorem equal_g {a b : List Int} (ha : a.length ≤ 1100000) (hab : a.length = b.length) {K0 : Bool → A} {K1 : A} : ∀ (d i k : Nat), i + d = a.length → d + 1 ≤ k →
    slices_Equal_Sint64_int64.g6 z k a b (a.length : Int) (i : Int) K0 K1 = bif decide (a.drop i = b.drop i) then K1 else K0 false
  | d, i, 0, _, hk => absurd hk (by omega)
  | 0, i, k + 1, hi, hk => by
    rw [slices_Equal_Sint64_int64.g6, if_neg (by omega), List.drop_eq_nil_of_le (by omega), List.drop_eq_nil_of_le (by omega)]
    rfl
  | d + 1, i, k + 1, hi, hk => by
    have hlt : i < a.length := by omega
    rw [slices_Equal_Sint64_int64.g6, if_pos (by omega), inI_at z hlt, inI_at z (show i < b.length by omega), drop_cons hlt, drop_cons (show i < b.length by omega)]
    by_cases h : a.getD i 0 = b.getD i 0
    · rw [if_neg (by simpa using h), w64_up (by omega), equal_g ha hab d (i + 1) k (by omega) (by omega), h]
      simp
    · rw [if_pos (by simpa using h), decide_eq_false (by simp only [List.cons.injEq]; exact fun e => h e.1), cond_false]
theorem equal_eq {a b : List Int} (ha : a.length ≤ 1100000) (k : Nat) (hk : a.length + 2 ≤ k) (Φ : Bool → A) : slices_Equal_Sint64_int64 z k a b Φ = Φ (decide (a = b)) := by
  obtain ⟨k, rfl, hk⟩ := up hk
  simp only [slices_Equal_Sint64_int64, step_succ]
  by_cases h : a.length = b.length
  · rw [if_neg (by omega)]
    have h := equal_g z ha h (K0 := Φ) (K1 := Φ true) a.length 0 k (by omega) (by omega)
    rw [List.drop_zero, List.drop_zero] at h
    refine Eq.trans h ?_
    cases decide (a = b) <;> rfl
  · rw [if_pos (by omega), decide_eq_false (fun e => h (by rw [e]))]
theorem same_g {a b : List Int} (ha : a.length ≤ 1100000) (hab : a.length = b.length) {K0 : Bool → A} {K1 : A} : ∀ (d i k : Nat), i + d = a.length → d + 1 ≤ k →
    spec_l01Same.g6 z k (i : Int) a b K0 K1 = bif decide (a.drop i = b.drop i) then K1 else K0 false
  | d, i, 0, _, hk => absurd hk (by omega)
  | 0, i, k + 1, hi, hk => by
    rw [spec_l01Same.g6, if_neg (by omega), List.drop_eq_nil_of_le (by omega), List.drop_eq_nil_of_le (by omega)]
    rfl
  | d + 1, i, k + 1, hi, hk => by
    have hlt : i < a.length := by omega
    rw [spec_l01Same.g6, if_pos (by omega), inI_at z hlt, inI_at z (show i < b.length by omega), drop_cons hlt, drop_cons (show i < b.length by omega)]
    by_cases h : a.getD i 0 = b.getD i 0
    · rw [if_neg (by simpa using h), w64_up (by omega), same_g ha hab d (i + 1) k (by omega) (by omega), h]
      simp
    · rw [if_pos (by simpa using h), decide_eq_false (by simp only [List.cons.injEq]; exact fun e => h e.1), cond_false]
theorem same_eq {a b : List Int} (ha : a.length ≤ 1100000) (m n : Int) (k : Nat) (hk : a.length + 2 ≤ k) (Φ : Bool → A) : spec_l01Same z k m a n b Φ = Φ (decide (m = n ∧ a = b)) := by
  obtain ⟨k, rfl, hk⟩ := up hk
  simp only [spec_l01Same, step_succ]
  by_cases hm : m = n
  · rw [if_neg (by simpa using hm)]
    by_cases h : a.length = b.length
    · rw [if_neg (by omega)]
      have h := same_g z ha h (K0 := Φ) (K1 := Φ true) a.length 0 k (by omega) (by omega)
      rw [List.drop_zero, List.drop_zero] at h
      refine Eq.trans h ?_
      rw [show decide (m = n ∧ a = b) = decide (a = b) by simp [hm]]
      cases decide (a = b) <;> rfl
    · rw [if_pos (by omega), decide_eq_false (fun e => h (by rw [e.2]))]
  · rw [if_pos (by simpa using hm), decide_eq_false (fun e => hm e.1)]
end
end Go.Proofs.Ytlohlekofckcgaa.F
/- Facts on the printed functions of the first layer: numbers of a field, reduced, turned, lifted. -/
namespace Go.Proofs.Ytlohlekofckcgaa.F
open Go.RowKit Go.Proofs.Ytlohlekofckcgaa.R
set_option linter.unusedVariables false
set_option linter.unusedSimpArgs false
def isC (n : Int) (l : List Int) : Bool := decide (1 ≤ n ∧ n ≤ 16) && (decide (l.length = cycD n.toNat) && smallL l)
theorem isC_len {n : Int} {l : List Int} (h : isC n l = true) : (∃ m : Nat, n = m ∧ 1 ≤ m ∧ m ≤ 16 ∧ l.length = cycD m) ∧ smallL l = true := by
  simp only [isC, Bool.and_eq_true, decide_eq_true_eq] at h
  exact ⟨⟨n.toNat, by omega, by omega, by omega, h.2.1⟩, h.2.2⟩
theorem le12 {n : Nat} (h1 : 1 ≤ n) (h2 : n ≤ 16) : cycD n ≤ 12 := (cyc_facts h1 h2).le12
section
variable {A : Type} (z : A)
theorem isCyclo_eq (n : Int) {l : List Int} (hl : l.length ≤ 1100000) (k : Nat) (hk : l.length + 70 ≤ k) (Φ : Bool → A) : impl_IsCyclo z k n l Φ = Φ (isC n l) := by
  obtain ⟨k, rfl⟩ := le_ex (show 3 ≤ k by omega)
  simp only [impl_IsCyclo, step_succ]
  rw [isOrder_eq]
  by_cases h : 1 ≤ n ∧ n ≤ 16
  · obtain ⟨m, rfl⟩ : ∃ m : Nat, n = m := ⟨n.toNat, by omega⟩
    rw [decide_eq_true h, cond_true, totient_eq z (by omega) (by omega) _ (by omega)]
    simp only [isC, Int.toNat_natCast, decide_eq_true h, Bool.true_and]
    by_cases hd : l.length = cycD m
    · rw [if_pos (by omega), areSmall_eq z hl (by omega) _ (by omega), decide_eq_true hd, Bool.true_and, small_one]
    · rw [if_neg (by omega), decide_eq_false hd, Bool.false_and]
  · rw [decide_eq_false h, cond_false]
    simp only [isC, decide_eq_false h, Bool.false_and]
theorem is01_eq (n : Int) {l : List Int} (hl : l.length ≤ 1100000) (k : Nat) (hk : l.length + 70 ≤ k) (Φ : Bool → A) : spec_l01Is z k n l Φ = Φ (isC n l) := by
  obtain ⟨k, rfl⟩ := le_ex (show 3 ≤ k by omega)
  simp only [spec_l01Is, step_succ]
  rw [in_eq]
  by_cases h : 1 ≤ n ∧ n ≤ 16
  · obtain ⟨m, rfl⟩ : ∃ m : Nat, n = m := ⟨n.toNat, by omega⟩
    rw [decide_eq_true h, cond_true, phi_eq z (by omega) (by omega) _ (by omega)]
    simp only [isC, Int.toNat_natCast, decide_eq_true h, Bool.true_and]
    by_cases hd : l.length = cycD m
    · rw [if_pos (by omega), fits_eq z hl _ _ (by omega), decide_eq_true hd, Bool.true_and]
    · rw [if_neg (by omega), decide_eq_false hd, Bool.false_and]
  · rw [decide_eq_false h, cond_false]
    simp only [isC, decide_eq_false h, Bool.false_and]
def codeC (m : Int) (a : List Int) (n : Int) (b : List Int) : Int := bif isC m a && isC n b then (if m = n then 0 else 2) else 1
theorem own_eq {l : List Int} (hl : l.length ≤ 1100000) (k : Nat) (hk : 1 ≤ k) (Φ : List Int → A) : spec_l01Own z k l Φ = Φ l := by
  obtain ⟨k, rfl, hk⟩ := up (K := 0) hk
  simp only [spec_l01Own, step_succ]
  rw [apI_ok z (by omega), List.nil_append]
theorem clone_eq {l : List Int} (hl : l.length ≤ 1100000) (k : Nat) (hk : 1 ≤ k) (Φ : List Int → A) : slices_Clone_Sint64_int64 z k l Φ = Φ l := by
  obtain ⟨k, rfl, hk⟩ := up (K := 0) hk
  simp only [slices_Clone_Sint64_int64, step_succ]
  rw [apI_ok z (by omega)]
theorem zero01_eq {n : Nat} (h1 : 1 ≤ n) (h2 : n ≤ 16) (k : Nat) (hk : 61 ≤ k) (Φ : Int → List Int → A) : spec_l01Zero z k n Φ = Φ n (List.replicate (cycD n) 0) := by
  obtain ⟨k, rfl, hk⟩ := up hk
  have := le12 h1 h2
  simp only [spec_l01Zero, step_succ]
  rw [phi_eq z h1 h2 _ (by omega), mkI_at z (by omega)]
/-! reduced -/
theorem red_g11 {F : List Int} {D : Nat} (hF : F.length = D + 1) (v : Int) {x : Nat} (hD : D ≤ x) {K0 : List Int → A} : ∀ (d c k : Nat) (L : List Int), c + d = D + 1 → x < L.length → L.length ≤ 1000 → d + 1 ≤ k →
    spec_l01Reduce.g11 z k (D : Int) (x : Int) v (c : Int) F L K0 = K0 (redIn F v (x - D) d c L)
  | d, c, 0, L, _, _, _, hk => absurd hk (by omega)
  | 0, c, k + 1, L, hc, hx, hl, hk => by
    rw [spec_l01Reduce.g11, if_neg (by omega)]
    rfl
  | d + 1, c, k + 1, L, hc, hx, hl, hk => by
    have e : w64 (w64 ((x : Int) - (D : Int)) + (c : Int)) = ((x - D + c : Nat) : Int) := by
      rw [w64_id (x := (x : Int) - D) (by omega) (by omega), w64_id (by omega) (by omega)]; omega
    rw [spec_l01Reduce.g11, if_pos (by omega), e, inI_at z (by omega), inI_at z (by omega), inI_at z (by omega), w64_up (by omega), red_g11 hF v hD d (c + 1) k _ (by omega) (by rw [List.length_set]; omega) (by rw [List.length_set]; omega) (by omega)]
    rfl
theorem redIn_length (F : List Int) (v : Int) (p : Nat) : ∀ (d c : Nat) (L : List Int), (redIn F v p d c L).length = L.length
  | 0, c, L => rfl
  | d + 1, c, L => by unfold redIn; rw [redIn_length F v p d, List.length_set]
theorem redOut_length (F : List Int) (D : Nat) : ∀ (x : Nat) (L : List Int), (redOut F D x L).length = L.length
  | 0, L => rfl
  | x + 1, L => by
    unfold redOut
    by_cases h : D ≤ x
    · rw [if_pos h, redOut_length F D x, redIn_length]
    · rw [if_neg h]
theorem red_g5 {F : List Int} {D : Nat} (h1 : 1 ≤ D) (hF : F.length = D + 1) {K0 : List Int → A} : ∀ (x k : Nat) (L : List Int), x ≤ L.length → L.length ≤ 1000 → x + D + 4 ≤ k →
    spec_l01Reduce.g5 z k (D : Int) ((x : Int) - 1) F L K0 = K0 (redOut F D x L)
  | x, 0, L, _, _, hk => absurd hk (by omega)
  | 0, k + 1, L, hx, hl, hk => by
    rw [spec_l01Reduce.g5, if_neg (by omega)]
    rfl
  | x + 1, k + 1, L, hx, hl, hk => by
    rw [show ((x + 1 : Nat) : Int) - 1 = (x : Int) by omega, spec_l01Reduce.g5]
    unfold redOut
    by_cases hD : D ≤ x
    · rw [if_pos (by omega), if_pos hD, inI_at z (by omega)]
      refine Eq.trans (red_g11 z hF _ hD (D + 1) 0 k L (by omega) (by omega) hl (by omega)) ?_
      rw [w64_id (by omega) (by omega), red_g5 h1 hF x k _ (by rw [redIn_length]; omega) (by rw [redIn_length]; omega) (by omega)]
      rfl
    · rw [if_neg (by omega), if_neg hD]
theorem red_g18 {R : List Int} {D : Nat} (hD : D ≤ 1000) (hR : R.length ≤ 1000) {K0 : List Int → A} : ∀ (d m k : Nat), m + d = D → d + 1 ≤ k →
    spec_l01Reduce.g18 z k (D : Int) (m : Int) R (tab D fun j => if j < m then rd R j else 0) K0 = K0 (tab D fun j => rd R j)
  | d, m, 0, _, hk => absurd hk (by omega)
  | 0, m, k + 1, hm, hk => by
    rw [spec_l01Reduce.g18, if_neg (by omega), show (tab D fun j => if j < m then rd R j else 0) = tab D fun j => rd R j from tab_congr (fun j hj => if_pos (by omega))]
  | d + 1, m, k + 1, hm, hk => by
    rw [spec_l01Reduce.g18, if_pos (by omega)]
    by_cases hr : m < R.length
    · rw [if_pos (by omega), inI_at z hr, inI_at z (by rw [tab_length]; omega), w64_up (by omega), tab_set]
      have e : (tab D fun j => if m = j then R.getD m 0 else if j < m then rd R j else 0) = tab D fun j => if j < m + 1 then rd R j else 0 := tab_congr (fun j hj => by
        by_cases c : m = j
        · subst c; rw [if_pos rfl, if_pos (by omega)]; rfl
        · rw [if_neg c]
          by_cases c2 : j < m
          · rw [if_pos c2, if_pos (by omega)]
          · rw [if_neg c2, if_neg (by omega)])
      rw [e, red_g18 hD hR d (m + 1) k (by omega) (by omega)]
    · rw [if_neg (by omega), show (tab D fun j => if j < m then rd R j else 0) = tab D fun j => rd R j from tab_congr (fun j hj => by
        by_cases c : j < m
        · rw [if_pos c]
        · rw [if_neg c, rd_out R j (by omega)])]
theorem reduce_eq {n : Nat} (h1 : 1 ≤ n) (h2 : n ≤ 16) {L : List Int} (hl : L.length ≤ 1000) (hw : Wrapped L) (k : Nat) (hk : L.length + 220 ≤ k) (Φ : Int → List Int → A) :
    spec_l01Reduce z k (n : Int) L Φ = Φ n (tab (cycD n) fun m => wrap64 (dot L (cycW n m))) := by
  obtain ⟨k, rfl, hk⟩ := up hk
  have C := cyc_facts h1 h2
  have := C.le12
  have := C.pos
  simp only [spec_l01Reduce, step_succ]
  rw [cyclo_eq z h1 h2 _ (by omega), own_eq z (by omega) _ (by omega), C.lenF, w64_id (x := ((cycD n + 1 : Nat) : Int) - 1) (by omega) (by omega), w64_id (x := (L.length : Int) - 1) (by omega) (by omega), show ((cycD n + 1 : Nat) : Int) - 1 = (cycD n : Int) by omega]
  rw [red_g5 z (by omega) C.lenF L.length k L (Nat.le_refl _) hl (by omega), zero01_eq z h1 h2 _ (by omega), tab_zero, show (tab (cycD n) fun _ => (0 : Int)) = tab (cycD n) fun j => if j < 0 then rd (redOut (cycF n) (cycD n) L.length L) j else 0 from tab_congr (fun j _ => (if_neg (by omega)).symm)]
  refine Eq.trans (red_g18 z (by omega) (by rw [redOut_length]; omega) (cycD n) 0 k (by omega) (by omega)) ?_
  rw [show (tab (cycD n) fun j => rd (redOut (cycF n) (cycD n) L.length L) j) = tab (cycD n) fun m => wrap64 (dot L (cycW n m)) from tab_congr (fun j hj => redL_rd C h1 L hw j hj)]
end
end Go.Proofs.Ytlohlekofckcgaa.F
/- Facts on the printed functions of the first layer: images, lifts, sums. -/
namespace Go.Proofs.Ytlohlekofckcgaa.F
open Go.RowKit Go.Proofs.Ytlohlekofckcgaa.R
set_option linter.unusedVariables false
set_option linter.unusedSimpArgs false
theorem mul_bd {i : Nat} {a : Int} (hi : i ≤ 100) (ha : -1000 ≤ a ∧ a ≤ 1000) : -1000000 ≤ (i : Int) * a ∧ (i : Int) * a ≤ 1000000 := by
  have := mul_le (a := (i : Int)) (b := a) (A := 1000) (B := 1000) (by omega) ha
  omega
theorem round_eq {v : Int} {n : Nat} (hv : -1000000 ≤ v ∧ v ≤ 1000000) (h1 : 1 ≤ n) (h2 : n ≤ 1000) : Int.tmod (w64 (Int.tmod (w64 v) n + n)) n = v % n := by
  obtain ⟨a0, a1⟩ := tmod_lt (a := v) (n := n) (by omega)
  rw [w64_id (x := v) (by omega) (by omega), w64_id (by omega) (by omega), Int.tmod_eq_emod_of_nonneg (by omega), Int.add_emod_right, tmod_emod]
theorem mod_nat (v : Int) {n : Nat} (h1 : 1 ≤ n) : v % n = (((v % n).toNat : Nat) : Int) ∧ (v % n).toNat < n := by
  have q0 := Int.emod_nonneg v (b := n) (by omega)
  have q1 := Int.emod_lt_of_pos v (b := n) (by omega)
  exact ⟨by omega, by omega⟩
section
variable {A : Type} (z : A)
theorem gal_g {n : Nat} (h1 : 1 ≤ n) (h2 : n ≤ 16) {x : List Int} (hx : x.length ≤ 100) {a : Int} (ha : -1000 ≤ a ∧ a ≤ 1000) {K0 : List Int → A} : ∀ (d i k : Nat) (G : List Int), i + d = x.length → G.length = n → d + 1 ≤ k →
    spec_l01Galois.g5 z k a (n : Int) (i : Int) x G K0 = K0 (galIn n x a d i G)
  | d, i, 0, G, _, _, hk => absurd hk (by omega)
  | 0, i, k + 1, G, hi, hG, hk => by
    rw [spec_l01Galois.g5, if_neg (by omega)]
    rfl
  | d + 1, i, k + 1, G, hi, hG, hk => by
    have hm := mul_bd (i := i) (by omega) ha
    obtain ⟨q0, q1⟩ := mod_nat ((i : Int) * a) h1
    rw [spec_l01Galois.g5, if_pos (by omega), gd_ok z (by omega)]
    dsimp only
    rw [gd_ok z (by omega), round_eq hm h1 (by omega), q0, inI_at z (by omega), inI_at z (by omega), inI_at z (by omega), w64_up (by omega), gal_g h1 h2 hx ha d (i + 1) k _ (by omega) (by rw [List.length_set]; exact hG) (by omega)]
    rfl
theorem galois_eq {n : Nat} (h1 : 1 ≤ n) (h2 : n ≤ 16) {x : List Int} (hx : x.length ≤ 100) {a : Int} (ha : -1000 ≤ a ∧ a ≤ 1000) (k : Nat) (hk : 340 ≤ k) (Φ : Int → List Int → A) :
    spec_l01Galois z k (n : Int) x a Φ = Φ n (imT n x a) := by
  obtain ⟨k, rfl, hk⟩ := up (K := 339) hk
  simp only [spec_l01Galois, step_succ]
  obtain ⟨a1, a2, a3⟩ := galIn_facts n h1 x a x.length 0 (List.replicate n 0) (by simp) (wrapped_zeros n)
  rw [mkI_at z (by omega)]
  refine Eq.trans (gal_g z h1 h2 hx ha x.length 0 k _ (by omega) (by simp) (by omega)) ?_
  rw [reduce_eq z h1 h2 (by rw [a1]; omega) a2 k (by rw [a1]; omega)]
  congr 1
  exact tab_congr (fun m _ => by
    refine ((a3 (cycW n m)).trans (Cg.of ?_)).eq
    rw [dot_zeros, Int.zero_add]; rfl)
theorem with178_in {row : List Int} (hr : row.length ≤ 1000) (v : Int) {K0 : List Int → A} : ∀ (d c k : Nat) (o : List Int), c + d = row.length → o.length = row.length → d + 1 ≤ k →
    impl_field_with_c73.g10 z k v row (row.length : Int) (c : Int) o K0 = K0 (addIn row v 0 d c o)
  | d, c, 0, o, _, _, hk => absurd hk (by omega)
  | 0, c, k + 1, o, hc, ho, hk => by
    rw [impl_field_with_c73.g10, if_neg (by omega)]
    rfl
  | d + 1, c, k + 1, o, hc, ho, hk => by
    rw [impl_field_with_c73.g10, if_pos (by omega), inI_at z (by omega), inI_at z (by omega), inI_at z (by omega), w64_up (by omega), with178_in hr v d (c + 1) k _ (by omega) (by rw [List.length_set]; exact ho) (by omega)]
    rw [show addIn row v 0 (d + 1) c o = addIn row v 0 d (c + 1) (o.set c (w64 (o.getD c 0 + w64 (v * row.getD c 0)))) by rw [addIn, Nat.zero_add]; rfl]
theorem with178_g {n : Nat} (h1 : 1 ≤ n) (h2 : n ≤ 16) {x : List Int} (hx : x.length ≤ 100) {a : Int} {q : Nat → Nat}
    (hq : ∀ i : Nat, i < x.length → q i < n ∧ ∀ k (K0 : Int → A), (impl_field_image_1 z (k + 1) (i : Int) a fun v3 => impl_around z (k + 1) v3 (n : Int) K0) = K0 (q i : Int)) {K0 : List Int → A} : ∀ (d i k : Nat) (o : List Int), i + d = x.length → o.length = cycD n → d + 20 ≤ k →
    impl_field_with_c73.g4 z k (n : Int) (cycP n) a x (x.length : Int) (i : Int) o K0 = K0 (imIn n x q d i o)
  | d, i, 0, o, _, _, hk => absurd hk (by omega)
  | 0, i, k + 1, o, hi, ho, hk => by
    rw [impl_field_with_c73.g4, if_neg (by omega)]
    rfl
  | d + 1, i, k + 1, o, hi, ho, hk => by
    obtain ⟨q1, q2⟩ := hq i (by omega)
    have C := cyc_facts h1 h2
    obtain ⟨r1, r2, r3⟩ := cycRow_facts C h1 q1
    have := C.le12
    obtain ⟨j, rfl, hj⟩ := up (show d + 19 + 1 ≤ k by omega)
    rw [impl_field_with_c73.g4, if_pos (by omega), inI_at z (by omega), q2, inI_at z (by rw [C.lenP]; omega), w64_up (by omega)]
    refine Eq.trans (with178_in z (row := cycRow n (q i)) (by omega) _ (cycRow n (q i)).length 0 (j + 1) o (by omega) (by omega) (by omega)) ?_
    rw [r1]
    have hl := (addIn_length (cycRow n (q i)) (rd x i) 0 (cycD n) 0 o).trans ho
    exact with178_g h1 h2 hx hq d (i + 1) (j + 1) _ (by omega) hl (by omega)
theorem image_eq {n : Nat} (h1 : 1 ≤ n) (h2 : n ≤ 16) {x : List Int} (hx : x.length ≤ 100) {a : Int} (ha : -1000 ≤ a ∧ a ≤ 1000) (k : Nat) (hk : 130 ≤ k) (Φ : List Int → A) :
    impl_field_image z k (n : Int) (cycD n : Int) (cycP n) x a Φ = Φ (imT n x a) := by
  obtain ⟨k, rfl⟩ := le_ex (show 2 ≤ k by omega)
  have := le12 h1 h2
  simp only [impl_field_image, impl_field_with_c73, step_succ]
  rw [mkI_at z (by omega)]
  refine Eq.trans (with178_g z h1 h2 hx (q := fun i => (((i : Int) * a) % n).toNat) (fun i hi => ⟨(mod_nat _ h1).2, fun k K0 => ?_⟩) x.length 0 k _ (by omega) (by simp) (by omega)) ?_
  · simp only [impl_field_image_1, step_succ]
    have hm := mul_bd (i := i) (by omega) ha
    rw [Int.mul_comm a, w64_id (by omega) (by omega), around_eq z _ (by omega) (by omega)]
    exact congrArg _ (mod_nat _ h1).1
  · rw [imIn_tab (cyc_facts h1 h2) h1 x _ fun j hj => (mod_nat _ h1).2]
    rfl
end
end Go.Proofs.Ytlohlekofckcgaa.F
/- Facts on the printed functions of the first layer: products, with sums that may be great. -/
namespace Go.Proofs.Ytlohlekofckcgaa.F
open Go.RowKit Go.Proofs.Ytlohlekofckcgaa.R
set_option linter.unusedVariables false
set_option linter.unusedSimpArgs false
/-- The sums stand at T, of at most c numbers each. -/
def Sums (D : Nat) (o : List (Int × Nat)) (T : Nat → Int) (c : Nat) : Prop := o.length = D ∧ ∀ j, j < D → (o.getD j (0, 0)).1 = w64 (T j) ∧ Near (o.getD j (0, 0)).2 (T j) c ∧ (T j).natAbs ≤ 16000000000000000000 * c
theorem Near.more {b : Nat} {T : Int} {c c' : Nat} (h : Near b T c) (e : c ≤ c') : Near b T c' := by
  obtain ⟨n, h1, h2⟩ := h
  exact ⟨n, h1, Nat.le_trans h2 (Nat.mul_le_mul_right _ e)⟩
theorem Sums.more {D : Nat} {o : List (Int × Nat)} {T : Nat → Int} {c c' : Nat} (h : Sums D o T c) (e : c ≤ c') : Sums D o T c' :=
  ⟨h.1, fun j hj => by obtain ⟨h1, h2, h3⟩ := h.2 j hj; exact ⟨h1, h2.more e, Nat.le_trans h3 (Nat.mul_le_mul_left _ e)⟩⟩
theorem Sums.congr {D : Nat} {o : List (Int × Nat)} {T S : Nat → Int} {c : Nat} (h : Sums D o T c) (e : ∀ j, j < D → T j = S j) : Sums D o S c :=
  ⟨h.1, fun j hj => by rw [← e j hj]; exact h.2 j hj⟩
theorem sums_zero (D : Nat) : Sums D (List.replicate D ((0 : Int), (0 : Nat))) (fun _ => 0) 0 :=
  ⟨by simp, fun j hj => by
    have : (List.replicate D ((0 : Int), (0 : Nat))).getD j (0, 0) = (0, 0) := by simp [List.getD_eq_getElem?_getD, hj]
    rw [this]
    exact ⟨rfl, near_zero, by simp⟩⟩
theorem w64_cg (a b : Int) : w64 (w64 a + w64 b) = w64 (a + b) := ((Cg.wrap a).add (Cg.wrap b)).eq
/-- One number more at one place. -/
theorem sumAdd {D : Nat} {o : List (Int × Nat)} {T : Nat → Int} {c : Nat} (h : Sums D o T c) (hc : c ≤ 200000) {m : Nat} (hm : m < D) {X Y : Nat} (hXY : X ≤ 16000000000 ∧ Y ≤ 16000000000 ∧ X * Y ≤ 16000000000000000000) {x y : Int} (hx : x.natAbs ≤ X) (hy : y.natAbs ≤ Y) :
    ∃ s, (∀ (A : Type) (z : A) (k : Nat) (Φ : Int → Nat → A), impl_sum_add z (k + 1) (o.getD m (0, 0)).1 (o.getD m (0, 0)).2 x y Φ = Φ (w64 (T m + x * y)) s) ∧
      Sums D (o.set m (w64 (T m + x * y), s)) (fun j => if m = j then T j + x * y else T j) (c + 1) := by
  obtain ⟨h1, h2, h3⟩ := h.2 m hm
  have hxy : (x * y).natAbs ≤ 16000000000000000000 := by
    rw [Int.natAbs_mul]
    exact Nat.le_trans (Nat.mul_le_mul hx hy) hXY.2.2
  obtain ⟨p, s, e1, e2, e3⟩ := near_add h2 (x := x) (y := y) (by omega) (by omega) (by omega) (by omega) (by omega)
  refine ⟨s, fun A z k Φ => ?_, by rw [List.length_set]; exact h.1, fun j hj => ?_⟩
  · simp only [impl_sum_add, step_succ]
    rw [e1]
    simp only [optN]
    rw [e2]
    simp only []
    rw [h1, w64_cg]
  · by_cases e : m = j
    · subst e
      have : (o.set m (w64 (T m + x * y), s)).getD m (0, 0) = (w64 (T m + x * y), s) := by
        simp [List.getD_eq_getElem?_getD, List.getElem?_set, h.1, hm]
      rw [this]
      dsimp only
      rw [if_pos rfl]
      exact ⟨rfl, e3, by omega⟩
    · have : (o.set m (w64 (T m + x * y), s)).getD j (0, 0) = o.getD j (0, 0) := by
        simp [List.getD_eq_getElem?_getD, List.getElem?_set, e]
      rw [this]
      dsimp only
      rw [if_neg e]
      obtain ⟨g1, g2, g3⟩ := h.2 j hj
      exact ⟨g1, g2.more (by omega), by omega⟩
/-- A row of a power, times a product. -/
theorem prod15 {D : Nat} {row : List Int} (hr : row.length = D) (hD : D ≤ 12) (hrow : ∀ j : Nat, j < D → -1 ≤ rd row j ∧ rd row j ≤ 1) {X Y : Nat} (hXY : X ≤ 16000000000 ∧ Y ≤ 16000000000 ∧ X * Y ≤ 16000000000000000000) {x y : Int} (hx : x.natAbs ≤ X) (hy : y.natAbs ≤ Y) :
    ∀ (d m : Nat) (o : List (Int × Nat)) (T : Nat → Int) (c : Nat), m + d = D → c + d ≤ 200000 → Sums D o T c →
    ∃ o', (∀ (A : Type) (z : A) (k : Nat) (K0 : List (Int × Nat) → A), d + 3 ≤ k → impl_field_product.g15 z k x y row (row.length : Int) (m : Int) o K0 = K0 o') ∧ Sums D o' (fun j => if m ≤ j then T j + rd row j * x * y else T j) (c + d)
  | 0, m, o, T, c, hm, hc, hs => by
    refine ⟨o, fun A z k K0 hk => ?_, hs.congr fun j hj => by rw [if_neg (by omega)]⟩
    obtain ⟨k, rfl, _⟩ := up (show 2 + 1 ≤ k by omega)
    rw [impl_field_product.g15, if_neg (by omega)]
  | d + 1, m, o, T, c, hm, hc, hs => by
    have hmD : m < D := by omega
    have hro := hrow m hmD
    by_cases h0 : rd row m = 0
    · obtain ⟨o', h1, h2⟩ := prod15 hr hD hrow hXY hx hy d (m + 1) o T c (by omega) (by omega) hs
      refine ⟨o', fun A z k K0 hk => ?_, (h2.more (by omega)).congr fun j hj => ?_⟩
      · obtain ⟨k, rfl, _⟩ := up (show d + 3 + 1 ≤ k by omega)
        have h0' : row.getD m 0 = 0 := h0
        rw [impl_field_product.g15, if_pos (by omega), inI_at z (by omega), if_neg (by simpa using h0'), w64_up (by omega)]
        exact h1 A z k K0 (by omega)
      · by_cases c1 : m + 1 ≤ j
        · rw [if_pos c1, if_pos (by omega)]
        · rw [if_neg c1]
          by_cases c2 : m ≤ j
          · have : j = m := by omega
            subst this
            rw [if_pos c2, h0, Int.zero_mul, Int.zero_mul, Int.add_zero]
          · rw [if_neg c2]
    · have hnx : (rd row m * x).natAbs ≤ X := by
        rcases (show rd row m = 1 ∨ rd row m = -1 by omega) with e | e <;> rw [e] <;> omega
      obtain ⟨s, e1, e2⟩ := sumAdd hs (by omega) hmD hXY hnx hy
      obtain ⟨o', h1, h2⟩ := prod15 hr hD hrow hXY hx hy d (m + 1) _ _ (c + 1) (by omega) (by omega) e2
      refine ⟨o', fun A z k K0 hk => ?_, (h2.more (by omega)).congr fun j hj => ?_⟩
      · obtain ⟨k, rfl, _⟩ := up (show d + 3 + 1 ≤ k by omega)
        obtain ⟨i, rfl, _⟩ := up (show d + 2 + 1 ≤ k by omega)
        have h0' : row.getD m 0 ≠ 0 := h0
        have hw : w64 (row.getD m 0 * x) = rd row m * x := w64_id (x := rd row m * x) (by omega) (by omega)
        rw [impl_field_product.g15, if_pos (by omega), inI_at z (by omega), if_pos h0', inI_at z (by rw [hs.1]; omega), hw, e1, w64_up (by omega)]
        exact h1 A z (i + 1) K0 (by omega)
      · by_cases c1 : m + 1 ≤ j
        · rw [if_pos c1, if_neg (show ¬ m = j by omega), if_pos (show m ≤ j by omega)]
        · rw [if_neg c1]
          by_cases c2 : m ≤ j
          · have : j = m := by omega
            subst this
            rw [if_pos rfl, if_pos c2]
          · rw [if_neg (show ¬ m = j by omega), if_neg c2]
theorem prod7 {n : Nat} (h1 : 1 ≤ n) (h2 : n ≤ 16) {i : Nat} (hi : i ≤ 1000) {X Y : Nat} (hXY : X ≤ 16000000000 ∧ Y ≤ 16000000000 ∧ X * Y ≤ 16000000000000000000) {x : Int} (hx : x.natAbs ≤ X) {y : List Int} (hy : ∀ q : Nat, q < y.length → (rd y q).natAbs ≤ Y) (hyl : y.length ≤ 1000) :
    ∀ (d m : Nat) (o : List (Int × Nat)) (T : Nat → Int) (c : Nat), m + d = y.length → c + 12 * d ≤ 200000 → Sums (cycD n) o T c →
    ∃ o', (∀ (A : Type) (z : A) (k : Nat) (K0 : List (Int × Nat) → A), d + 20 ≤ k → impl_field_product.g7 z k (n : Int) (cycP n) (i : Int) x y (y.length : Int) (m : Int) o K0 = K0 o') ∧
      Sums (cycD n) o' (fun j => T j + x * sumF m d (fun q => rd y q * cycW n j (i + q))) (c + 12 * d)
  | 0, m, o, T, c, hm, hc, hs => by
    refine ⟨o, fun A z k K0 hk => ?_, hs.congr fun j hj => by simp [sumF]⟩
    obtain ⟨k, rfl, _⟩ := up (show 19 + 1 ≤ k by omega)
    rw [impl_field_product.g7, if_neg (by omega)]
  | d + 1, m, o, T, c, hm, hc, hs => by
    have hml : m < y.length := by omega
    have C := cyc_facts h1 h2
    have hlt : (i + m) % n < n := Nat.mod_lt _ (by omega)
    obtain ⟨r1, r2, r3⟩ := cycRow_facts C h1 hlt
    have skip : x * rd y m = 0 → (∀ (A : Type) (z : A) (k : Nat) (K0 : List (Int × Nat) → A), d + 20 + 1 ≤ k + 1 → impl_field_product.g7 z (k + 1) (n : Int) (cycP n) (i : Int) x y (y.length : Int) (m : Int) o K0 = impl_field_product.g7 z k (n : Int) (cycP n) (i : Int) x y (y.length : Int) ((m + 1 : Nat) : Int) o K0) →
        ∃ o', (∀ (A : Type) (z : A) (k : Nat) (K0 : List (Int × Nat) → A), d + 1 + 20 ≤ k → impl_field_product.g7 z k (n : Int) (cycP n) (i : Int) x y (y.length : Int) (m : Int) o K0 = K0 o') ∧
          Sums (cycD n) o' (fun j => T j + x * sumF m (d + 1) (fun q => rd y q * cycW n j (i + q))) (c + 12 * (d + 1)) := by
      intro h0 hstep
      obtain ⟨o', g1, g2⟩ := prod7 h1 h2 hi hXY hx hy hyl d (m + 1) o T c (by omega) (by omega) hs
      refine ⟨o', fun A z k K0 hk => ?_, (g2.more (by omega)).congr fun j hj => ?_⟩
      · obtain ⟨k, rfl, _⟩ := up (show d + 20 + 1 ≤ k by omega)
        rw [hstep A z k K0 (by omega)]
        exact g1 A z k K0 (by omega)
      · rw [sumF, Int.mul_add, ← Int.mul_assoc x, h0, Int.zero_mul, Int.zero_add]
    by_cases hx0 : x = 0
    · refine skip (by rw [hx0, Int.zero_mul]) fun A z k K0 hk => ?_
      rw [impl_field_product.g7, if_pos (by omega), inI_at z hml, if_pos hx0, w64_up (by omega)]
    by_cases hy0 : rd y m = 0
    · refine skip (by rw [hy0, Int.mul_zero]) fun A z k K0 hk => ?_
      have hy0' : y.getD m 0 = 0 := hy0
      rw [impl_field_product.g7, if_pos (by omega), inI_at z hml, if_neg hx0, if_pos hy0', w64_up (by omega)]
    obtain ⟨o1, e1, e2⟩ := prod15 (row := cycRow n ((i + m) % n)) r1 C.le12 (fun j hj => by
      rw [rd_nat _ _ (by omega)]
      exact r2 _ (List.getElem_mem _)) hXY hx (hy m hml) (cycD n) 0 o T c (by omega) (by have := C.le12; omega) hs
    obtain ⟨o', g1, g2⟩ := prod7 h1 h2 hi hXY hx hy hyl d (m + 1) o1 _ (c + 12) (by omega) (by omega) (e2.more (by have := C.le12; omega))
    refine ⟨o', fun A z k K0 hk => ?_, (g2.more (by omega)).congr fun j hj => ?_⟩
    · obtain ⟨k, rfl, _⟩ := up (show d + 20 + 1 ≤ k by omega)
      have hy0' : ¬ y.getD m 0 = 0 := hy0
      have hq : Int.tmod (w64 ((i : Int) + (m : Int))) (n : Int) = (((i + m) % n : Nat) : Int) := by
        rw [w64_id (by omega) (by omega), Int.tmod_eq_emod_of_nonneg (by omega), Int.natCast_emod, Int.natCast_add]
      rw [impl_field_product.g7, if_pos (by omega), inI_at z hml, if_neg hx0, if_neg hy0', gd_ok z (by omega), hq, inI_at z (by rw [C.lenP]; exact hlt), w64_up (by omega)]
      refine Eq.trans (e1 A z k _ (by have := C.le12; omega)) ?_
      exact g1 A z k K0 (by omega)
    · rw [if_pos (Nat.zero_le _), sumF, r3 j, cycW_mod, Int.mul_add, Int.add_assoc]
      congr 2
      rw [Int.mul_comm (cycW n j (i + m)) x, Int.mul_assoc, Int.mul_comm (cycW n j (i + m))]
theorem prod1 {n : Nat} (h1 : 1 ≤ n) (h2 : n ≤ 16) {X Y : Nat} (hXY : X ≤ 16000000000 ∧ Y ≤ 16000000000 ∧ X * Y ≤ 16000000000000000000) {x y : List Int} (hx : ∀ q : Nat, q < x.length → (rd x q).natAbs ≤ X) (hxl : x.length ≤ 100) (hy : ∀ q : Nat, q < y.length → (rd y q).natAbs ≤ Y) (hyl : y.length ≤ 100) :
    ∀ (d i : Nat) (o : List (Int × Nat)) (T : Nat → Int) (c : Nat), i + d = x.length → c + 1200 * d ≤ 200000 → Sums (cycD n) o T c →
    ∃ o', (∀ (A : Type) (z : A) (k : Nat) (K0 : List (Int × Nat) → A), d + 150 ≤ k → impl_field_product.g1 z k (n : Int) (cycP n) y x (x.length : Int) (i : Int) o K0 = K0 o') ∧
      Sums (cycD n) o' (fun j => T j + sumF i d (fun p => rd x p * sumF 0 y.length (fun q => rd y q * cycW n j (p + q)))) (c + 1200 * d)
  | 0, i, o, T, c, hm, hc, hs => by
    refine ⟨o, fun A z k K0 hk => ?_, hs.congr fun j hj => by simp [sumF]⟩
    obtain ⟨k, rfl, _⟩ := up (show 149 + 1 ≤ k by omega)
    rw [impl_field_product.g1, if_neg (by omega)]
  | d + 1, i, o, T, c, hm, hc, hs => by
    have hil : i < x.length := by omega
    obtain ⟨o1, e1, e2⟩ := prod7 h1 h2 (i := i) (by omega) hXY (hx i hil) hy (by omega) y.length 0 o T c (by omega) (by omega) hs
    obtain ⟨o', g1, g2⟩ := prod1 h1 h2 hXY hx hxl hy hyl d (i + 1) o1 _ (c + 1200) (by omega) (by omega) (e2.more (by omega))
    refine ⟨o', fun A z k K0 hk => ?_, (g2.more (by omega)).congr fun j hj => ?_⟩
    · obtain ⟨k, rfl, _⟩ := up (show d + 150 + 1 ≤ k by omega)
      rw [impl_field_product.g1, if_pos (by omega), inI_at z hil, w64_up (by omega)]
      refine Eq.trans (e1 A z k _ (by omega)) ?_
      exact g1 A z k K0 (by omega)
    · rw [sumF, Int.add_assoc]
/-- What sums are told as. -/
theorem values4 {D : Nat} {o : List (Int × Nat)} {T : Nat → Int} {c : Nat} (h : Sums D o T c) (hc : c ≤ 400000) (hD : D ≤ 1000) {A : Type} (z : A) {K0 : Bool → List Int → A} : ∀ (d i k : Nat) (ok : Bool) (l : List Int), i + d = D → l.length = i → d + 4 ≤ k →
    impl_values.g4 z k o ok (o.length : Int) (i : Int) l K0 = K0 (ok && ((List.range' i d).all fun j => fitsB (T j))) (l ++ (List.range' i d).map fun j => w64 (T j))
  | d, i, 0, ok, l, _, _, hk => absurd hk (by omega)
  | 0, i, k + 1, ok, l, hi, hl, hk => by
    rw [impl_values.g4, if_neg (by rw [h.1]; omega)]
    simp
  | d + 1, i, k + 1, ok, l, hi, hl, hk => by
    obtain ⟨k, rfl, _⟩ := up (show d + 3 + 1 ≤ k by omega)
    obtain ⟨k, rfl, _⟩ := up (show d + 2 + 1 ≤ k by omega)
    have hol := h.1
    obtain ⟨g1, g2, g3⟩ := h.2 i (by omega)
    have hf := near_fits g2 hc
    have hv : ∀ Ψ : Int → Bool → A, impl_sum_value z (k + 1 + 1) (o.getD i (0, 0)).1 (o.getD i (0, 0)).2 Ψ = Ψ (w64 (T i)) (fitsB (T i)) := by
      intro Ψ
      simp only [impl_sum_value, step_succ]
      rw [within_eq, g1, ← hf, w64_wrap]
      cases decide (-1000000000 ≤ wrap64 (T i) ∧ wrap64 (T i) ≤ 1000000000)
      · rfl
      · cases (FloatKind.format .f64).order (o.getD i (0, 0)).2 4876203697187506176 == some .lt <;> rfl
    rw [impl_values.g4, if_pos (by rw [hol]; omega), inI_at z (by omega), hv, apI_ok z (by omega), w64_up (by omega), List.range'_succ, List.all_cons, List.map_cons]
    cases ok with
    | true =>
      rw [cond_true, values4 h hc hD z d (i + 1) (k + 1 + 1) _ _ (by omega) (by simp [hl]) (by omega)]
      simp
    | false =>
      rw [cond_false, values4 h hc hD z d (i + 1) (k + 1 + 1) _ _ (by omega) (by simp [hl]) (by omega)]
      simp
theorem fits_small (T : Int) : fitsB T = decide (-1000000000 ≤ T ∧ T ≤ 1000000000) := by
  unfold fitsB
  rw [Bool.eq_iff_iff, decide_eq_true_eq, decide_eq_true_eq]
  omega
theorem times_gen {n : Nat} (h1 : 1 ≤ n) (h2 : n ≤ 16) {X Y : Nat} (hXY : X ≤ 16000000000 ∧ Y ≤ 16000000000 ∧ X * Y ≤ 16000000000000000000) {x y : List Int} (hx : within X x) (hxl : x.length ≤ 100) (hy : within Y y) (hyl : y.length ≤ 100) {A : Type} (z : A) (k : Nat) (hk : 260 ≤ k) (Φ : List Int → Bool → A) :
    impl_field_times z k (n : Int) (cycD n : Int) (cycP n) x y Φ = Φ (tab (cycD n) fun m => w64 (bil n x y m)) (okB n x y) := by
  have C := cyc_facts h1 h2
  have hD := C.le12
  obtain ⟨o', g1, g2⟩ := prod1 h1 h2 hXY (x := x) (y := y) (fun q hq => by have := hx q hq; omega) hxl (fun q hq => by have := hy q hq; omega) hyl x.length 0 _ _ 0 (by omega) (by omega) (sums_zero (cycD n))
  obtain ⟨k, rfl⟩ := le_ex (show 2 ≤ k by omega)
  simp only [impl_field_times, impl_field_product, impl_values, step_succ]
  rw [mkI_at z (by omega)]
  refine Eq.trans (g1 A z (k) _ (by omega)) ?_
  refine Eq.trans (values4 g2 (by omega) (by omega) z (cycD n) 0 k true [] (by omega) rfl (by omega)) ?_
  rw [Bool.true_and, List.nil_append, ← List.range_eq_range']
  have e1 : (List.range (cycD n)).map (fun j => w64 (0 + sumF 0 x.length (fun p => rd x p * sumF 0 y.length (fun q => rd y q * cycW n j (p + q))))) = tab (cycD n) fun m => w64 (bil n x y m) :=
    List.map_congr_left fun j _ => by rw [Int.zero_add]; rfl
  have e2 : ((List.range (cycD n)).all fun j => fitsB (0 + sumF 0 x.length (fun p => rd x p * sumF 0 y.length (fun q => rd y q * cycW n j (p + q))))) = okB n x y := by
    rw [Bool.eq_iff_iff]
    unfold okB
    rw [smallL_tab, List.all_eq_true]
    constructor
    · intro h m hm
      have := h m (List.mem_range.2 hm)
      rw [fits_small, Int.zero_add, decide_eq_true_eq] at this
      exact this
    · intro h m hm
      rw [fits_small, Int.zero_add, decide_eq_true_eq]
      exact h m (List.mem_range.1 hm)
  rw [← e1, ← e2]
theorem times_eq {n : Nat} (h1 : 1 ≤ n) (h2 : n ≤ 16) {x y : List Int} (hx : within 1000000000 x) (hxl : x.length ≤ 100) (hy : within 16000000000 y) (hyl : y.length ≤ 100) {A : Type} (z : A) (k : Nat) (hk : 260 ≤ k) (Φ : List Int → Bool → A) :
    impl_field_times z k (n : Int) (cycD n : Int) (cycP n) x y Φ = Φ (tab (cycD n) fun m => w64 (bil n x y m)) (okB n x y) :=
  times_gen h1 h2 (X := 1000000000) (Y := 16000000000) (by decide) hx hxl hy hyl z k hk Φ
theorem times_eq2 {n : Nat} (h1 : 1 ≤ n) (h2 : n ≤ 16) {x y : List Int} (hx : within 16000000000 x) (hxl : x.length ≤ 100) (hy : within 1000000000 y) (hyl : y.length ≤ 100) {A : Type} (z : A) (k : Nat) (hk : 260 ≤ k) (Φ : List Int → Bool → A) :
    impl_field_times z k (n : Int) (cycD n : Int) (cycP n) x y Φ = Φ (tab (cycD n) fun m => w64 (bil n x y m)) (okB n x y) :=
  times_gen h1 h2 (X := 16000000000) (Y := 1000000000) (by decide) hx hxl hy hyl z k hk Φ
end Go.Proofs.Ytlohlekofckcgaa.F
/- Facts on the functions of the first layer, whole: images, conjugates, products, sums. -/
namespace Go.Proofs.Ytlohlekofckcgaa.F
open Go.RowKit Go.Proofs.Ytlohlekofckcgaa.R
set_option linter.unusedVariables false
set_option linter.unusedSimpArgs false
def told3 (n : Int) (l : List Int) : Int × List Int × Int := if smallL l = true then (n, l, 0) else (0, [], 3)
def gal3 (n : Int) (x : List Int) (a : Int) : Int × List Int × Int := if isC n x = true then (if (1 ≤ a ∧ a ≤ n) ∧ Int.gcd a n = 1 then told3 n (imT n.toNat x a) else (0, [], 2)) else (0, [], 1)
def bar3 (n : Int) (x : List Int) : Int × List Int × Int := if isC n x = true then told3 n (imT n.toNat x (-1)) else (0, [], 1)
def mul3 (m : Int) (x : List Int) (n : Int) (y : List Int) : Int × List Int × Int := if codeC m x n y ≠ 0 then (0, [], codeC m x n y) else match mulO m.toNat x y with
  | some l => (m, l, 0)
  | none => (0, [], 3)
def plusL (x y : List Int) (k : Int) : List Int := addIn y k 0 y.length 0 x
def add3 (m : Int) (x : List Int) (n : Int) (y : List Int) (k : Int) : Int × List Int × Int := if codeC m x n y ≠ 0 then (0, [], codeC m x n y) else if -1000 ≤ k ∧ k ≤ 1000 then told3 m (plusL x y k) else (0, [], 2)
def real2 (n : Int) (x : List Int) : Bool × Int := if isC n x = true then (decide (imT n.toNat x (-1) = x), 0) else (false, 1)
theorem imT_len (n : Nat) (x : List Int) (a : Int) : (imT n x a).length = cycD n := tab_length _ _
theorem isC_x {n : Int} {x : List Int} (h : isC n x = true) : ∃ m : Nat, n = m ∧ 1 ≤ m ∧ m ≤ 16 ∧ x.length = cycD m ∧ x.length ≤ 12 ∧ GoodZ m x := by
  obtain ⟨⟨m, h1, h2, h3, h4⟩, h5⟩ := isC_len h
  have := le12 h2 h3
  exact ⟨m, h1, h2, h3, h4, by omega, h4, smallL_within.1 h5⟩
theorem codeC_zero {m n : Int} {x y : List Int} (h : codeC m x n y = 0) : isC m x = true ∧ isC n y = true ∧ m = n := by
  unfold codeC at h
  cases h1 : isC m x <;> cases h2 : isC n y <;> simp [h1, h2] at h
  exact ⟨rfl, rfl, h⟩
section
variable {A : Type} (z : A)
end
end Go.Proofs.Ytlohlekofckcgaa.F
/- Facts on the functions of the first layer, whole: lifts, and fields within fields. -/
namespace Go.Proofs.Ytlohlekofckcgaa.F
open Go.RowKit Go.Proofs.Ytlohlekofckcgaa.R
set_option linter.unusedVariables false
set_option linter.unusedSimpArgs false
def liftT (m s : Nat) (x : List Int) : List Int := tab (cycD m) fun j => w64 (galQ m x (fun i => i * s % m) j)
def lift3 (n : Int) (x : List Int) (m : Int) : Int × List Int × Int := if isC n x = true then (if 1 ≤ m ∧ m ≤ 16 then (if m.toNat % n.toNat = 0 then told3 m (liftT m.toNat (m.toNat / n.toNat) x) else (0, [], 2)) else (0, [], 2)) else (0, [], 1)
def liftIn (s : Nat) (x : List Int) : Nat → Nat → List Int → List Int
  | 0, _, L => L
  | d + 1, i, L => liftIn s x d (i + 1) (L.set (i * s) (rd x i))
theorem liftIn_length (s : Nat) (x : List Int) : ∀ (d i : Nat) (L : List Int), (liftIn s x d i L).length = L.length
  | 0, i, L => rfl
  | d + 1, i, L => by unfold liftIn; rw [liftIn_length s x d, List.length_set]
theorem liftIn_facts {s : Nat} (hs : 1 ≤ s) (x : List Int) (hx : ∀ q : Nat, q < x.length → (rd x q).natAbs ≤ 1000000000) : ∀ (d i : Nat) (L : List Int), i + d = x.length → x.length * s ≤ L.length → (∀ j, i ≤ j → j < x.length → rd L (j * s : Nat) = 0) → Wrapped L →
    Wrapped (liftIn s x d i L) ∧ ∀ w : Nat → Int, dot (liftIn s x d i L) w = dot L w + sumF i d (fun p => rd x p * w (p * s))
  | 0, i, L, hi, hl, hz, hw => ⟨hw, fun w => by simp [liftIn, sumF]⟩
  | d + 1, i, L, hi, hl, hz, hw => by
    have hq : i * s < L.length := Nat.lt_of_lt_of_le (Nat.mul_lt_mul_of_pos_right (show i < x.length by omega) hs) hl
    have hxi := hx i (by omega)
    have hv : rd x i = wrap64 (rd x i) := (wrap_id (by omega) (by omega)).symm
    obtain ⟨g1, g2⟩ := liftIn_facts hs x hx d (i + 1) (L.set (i * s) (rd x i)) (by omega) (by rw [List.length_set]; exact hl) (fun j h1 h2 => by
      rw [rd_set _ _ _ _ (Nat.lt_of_lt_of_le (Nat.mul_lt_mul_of_pos_right h2 hs) hl), if_neg (fun e => by have := Nat.eq_of_mul_eq_mul_right hs e; omega)]
      exact hz j (by omega) h2) (by rw [hv]; exact hw.set _ _)
    refine ⟨g1, fun w => ?_⟩
    show dot (liftIn s x d (i + 1) (L.set (i * s) (rd x i))) w = _
    rw [g2 w, dot_set _ _ _ _ hq, hz i (Nat.le_refl _) (by omega), sumF, Int.sub_zero, Int.add_assoc]
section
variable {A : Type} (z : A)
theorem lift_mod {m n : Nat} (h1 : 1 ≤ n) (hm : m ≤ 16) (hd : m % n = 0) {i : Nat} (hi : i < n) : i * (m / n) ≤ m ∧ (1 ≤ m → 1 ≤ m / n) := by
  have e := Nat.div_add_mod m n
  rw [hd, Nat.add_zero] at e
  refine ⟨?_, fun h => ?_⟩
  · have := Nat.mul_le_mul_right (m / n) (Nat.le_of_lt hi)
    omega
  · rcases Nat.eq_zero_or_pos (m / n) with h0 | h0
    · rw [h0] at e; omega
    · exact h0
theorem tdiv_nat (m n : Nat) : Int.tdiv (m : Int) (n : Int) = ((m / n : Nat) : Int) := by rw [Int.tdiv_eq_ediv_of_nonneg (by omega)]; rfl
theorem tmod_nat (m n : Nat) : Int.tmod (m : Int) (n : Int) = ((m % n : Nat) : Int) := by rw [Int.tmod_eq_emod_of_nonneg (by omega)]; rfl
end
end Go.Proofs.Ytlohlekofckcgaa.F
/- Facts on the functions of the first layer, whole: what lies in a field. -/
namespace Go.Proofs.Ytlohlekofckcgaa.F
open Go.RowKit Go.Proofs.Ytlohlekofckcgaa.R
set_option linter.unusedVariables false
set_option linter.unusedSimpArgs false
def allF (n m : Nat) (x : List Int) : Nat → Nat → Bool
  | 0, _ => true
  | d + 1, a => if (a - 1) % m = 0 ∧ Nat.gcd a n = 1 then (if imT n x (a : Int) = x then allF n m x d (a + 1) else false) else allF n m x d (a + 1)
def inF (n : Int) (x : List Int) (m : Int) : Bool × Int := if isC n x = true then (if 1 ≤ m ∧ n.toNat % m.toNat = 0 then (allF n.toNat m.toNat x n.toNat 1, 0) else (false, 2)) else (false, 1)
theorem one_mod {a m : Nat} (ha : 1 ≤ a) : (a - 1) % m = 0 ↔ a % m = 1 % m := by
  obtain ⟨b, rfl⟩ : ∃ b, a = b + 1 := ⟨a - 1, by omega⟩
  rw [Nat.add_sub_cancel]
  constructor
  · intro h; rw [Nat.add_mod, h, Nat.zero_add, Nat.mod_mod]
  · intro h
    have h1 : ((b + 1) - 1) % m = 0 := Nat.sub_mod_eq_zero_of_mod_eq h
    simpa using h1
section
variable {A : Type} (z : A)
end
end Go.Proofs.Ytlohlekofckcgaa.F
/- Facts on the functions of the first layer, whole: what is drawn. -/
namespace Go.Proofs.Ytlohlekofckcgaa.F
open Go.RowKit Go.Proofs.Ytlohlekofckcgaa.R
set_option linter.unusedVariables false
set_option linter.unusedSimpArgs false
def Src (c : List Int) (i : Int) : Prop := c.length ≤ 4096 ∧ (∀ x ∈ c, 0 ≤ x ∧ x ≤ 255) ∧ 0 ≤ i ∧ i ≤ (c.length : Int)
theorem mask_bd (y : Int) : 0 ≤ wu64 ((BitVec.ofInt 64 y &&& BitVec.ofInt 64 1073741823).toNat : Int) ∧ wu64 ((BitVec.ofInt 64 y &&& BitVec.ofInt 64 1073741823).toNat : Int) ≤ 1073741823 := by
  have h : (BitVec.ofInt 64 y &&& BitVec.ofInt 64 1073741823).toNat ≤ 1073741823 := by
    rw [BitVec.toNat_and]
    exact Nat.le_trans Nat.and_le_right (by decide)
  generalize (BitVec.ofInt 64 y &&& BitVec.ofInt 64 1073741823).toNat = q at h
  rw [show wu64 (q : Int) = q by rw [wu64_def]; omega]
  omega
def stir (h : Int) : Int := wu64 (wu64 (h * 6364136223846793005) + 1442695040888963407)
def pull (h : Int) : Int := wu64 ((BitVec.ofInt 64 ((stir h).fdiv (2 ^ (31))) &&& BitVec.ofInt 64 1073741823).toNat : Int)
section
variable {A : Type} (z : A)
theorem within_set {B : Int} {o : List Int} (h : within B o) (j : Nat) {v : Int} (hv : -B ≤ v ∧ v ≤ B) : within B (o.set j v) := by
  intro q hq
  rw [List.length_set] at hq
  rw [rd_set _ _ _ _ hq]
  split
  · exact hv
  · exact h q hq
end
end Go.Proofs.Ytlohlekofckcgaa.F
/- Facts on the functions of the first layer, whole: what the law of images draws. -/
namespace Go.Proofs.Ytlohlekofckcgaa.F
open Go.RowKit Go.Proofs.Ytlohlekofckcgaa.R
set_option linter.unusedVariables false
set_option linter.unusedSimpArgs false
section
variable {A : Type} (z : A)
theorem in8 {v : Int} (h : v ∈ [(1 : Int), 2, 3, 4, 5, 6, 7, 8]) : 1 ≤ v ∧ v ≤ 8 := by
  simp only [List.mem_cons, List.not_mem_nil, or_false] at h
  omega
theorem cyc_bd {n : Int} (h : 1 ≤ n ∧ n ≤ 16) : 1 ≤ cycD n.toNat ∧ cycD n.toNat ≤ 12 := by
  have C := cyc_facts (n := n.toNat) (by omega) (by omega)
  exact ⟨C.pos, C.le12⟩
theorem plus_g {y : List Int} (hy : y.length ≤ 1000) (v : Int) : ∀ (d j k : Nat) (o : List Int), j + d = y.length → y.length ≤ o.length → d + 1 ≤ k → ∀ K0 : List Int → A,
    spec_l01Plus.g4 z k v (j : Int) y o K0 = K0 (addIn y v 0 d j o)
  | d, j, 0, o, _, _, hk, K0 => absurd hk (by omega)
  | 0, j, k + 1, o, hj, ho, hk, K0 => by
    rw [spec_l01Plus.g4, if_neg (by omega)]
    rfl
  | d + 1, j, k + 1, o, hj, ho, hk, K0 => by
    rw [spec_l01Plus.g4, if_pos (by omega), inI_at z (by omega), inI_at z (by omega), inI_at z (by omega), w64_up (by omega), plus_g hy v d (j + 1) k _ (by omega) (by rw [List.length_set]; omega) (by omega)]
    rw [show addIn y v 0 (d + 1) j o = addIn y v 0 d (j + 1) (o.set j (w64 (o.getD j 0 + w64 (v * y.getD j 0)))) by rw [addIn, Nat.zero_add]; rfl]
theorem plus_eq (m n : Int) {x y : List Int} (hx : x.length ≤ 1000) (hy : y.length ≤ x.length) (v : Int) (k : Nat) (hk : y.length + 3 ≤ k) (Φ : Int → List Int → A) : spec_l01Plus z k m x n y v Φ = Φ m (addIn y v 0 y.length 0 x) := by
  obtain ⟨k, rfl⟩ := le_ex (show 1 ≤ k by omega)
  simp only [spec_l01Plus, step_succ]
  rw [own_eq z (by omega) _ (by omega)]
  exact plus_g z (by omega) v y.length 0 k x (by omega) hy (by omega) _
theorem unit_eq {n : Nat} (h1 : 1 ≤ n) (h2 : n ≤ 16) : ∃ o, o.length = cycD n ∧ ∀ k, 300 ≤ k → ∀ Φ : Int → List Int → A, spec_l01Unit z k (n : Int) 1 Φ = Φ n o := by
  have hy : (w64 (Int.tmod 1 (n : Int) + n)).tmod n = ((1 % n : Nat) : Int) := by
    rw [show (1 : Int) = ((1 : Nat) : Int) from rfl, tmod_nat, ← Int.natCast_add, w64_id (by omega) (by have := Nat.mod_lt 1 h1; omega), tmod_nat, Nat.add_mod_right, Nat.mod_mod]
  have hr := Nat.mod_lt 1 h1
  have hw : Wrapped ((List.replicate (1 % n + 1) (0 : Int)).set (1 % n) 1) := by
    have := (wrapped_zeros (1 % n + 1)).set (1 % n) 1
    rwa [wrap_id (by omega) (by omega)] at this
  refine ⟨tab (cycD n) fun m => wrap64 (dot ((List.replicate (1 % n + 1) (0 : Int)).set (1 % n) 1) (cycW n m)), tab_length _ _, fun k hk Φ => ?_⟩
  obtain ⟨k, rfl⟩ := le_ex (show 1 ≤ k by omega)
  simp only [spec_l01Unit, step_succ]
  rw [gd_ok z (by omega), gd_ok z (by omega), hy, w64_up (by omega), mkI_at z (by omega), inI_at z (by rw [List.length_replicate]; omega)]
  exact reduce_eq z h1 h2 (by rw [List.length_set, List.length_replicate]; omega) hw k (by rw [List.length_set, List.length_replicate]; omega) Φ
end
end Go.Proofs.Ytlohlekofckcgaa.F
/- What images, conjugates, sums and lifts keep to. Plain. -/
namespace Go.Proofs.Ytlohlekofckcgaa.F
open Go.RowKit Go.Proofs.Ytlohlekofckcgaa.R
set_option linter.unusedVariables false
set_option linter.unusedSimpArgs false
theorem imT_nat {n : Nat} (h1 : 1 ≤ n) (h2 : n ≤ 16) {x : List Int} (hx : GoodZ n x) (a : Nat) : imT n x (a : Int) = tab (cycD n) (galN n x a) := by
  have C := cyc_facts h1 h2
  have := C.le12
  refine tab_congr fun m hm => ?_
  have h := gal_le C h1 (B := 1000000000) (by omega) hx.2 (by rw [hx.1]; omega) (a : Int) m
  rw [wrap_id (by omega) (by omega), gal_nat]
theorem gal_neg {n : Nat} (h1 : 1 ≤ n) (x : List Int) (m : Nat) : gal n x (-1) m = gal n x ((n - 1 : Nat) : Int) m := by
  unfold gal
  refine sumF_congr _ 0 fun i _ _ => ?_
  have e : ((i : Int) * ((n - 1 : Nat) : Int)) % (n : Int) = ((i : Int) * (-1)) % (n : Int) := by
    have e1 : (i : Int) * ((n - 1 : Nat) : Int) = (i : Int) * (-1) + (i : Int) * n := by
      rw [← Int.mul_add]
      congr 1
      omega
    rw [e1, Int.add_mul_emod_self_right]
  rw [e]
theorem imT_neg {n : Nat} (h1 : 1 ≤ n) (x : List Int) : imT n x (-1) = imT n x ((n - 1 : Nat) : Int) := tab_congr fun m _ => by rw [gal_neg h1]
theorem neg_tab : ∀ n : Nat, 1 ≤ n → n ≤ 16 → Nat.gcd (n - 1) n = 1 ∧ (n - 1) * (n - 1) % n = 1 % n :=
  by16 (by decide) (by decide) (by decide) (by decide) (by decide) (by decide) (by decide) (by decide) (by decide) (by decide) (by decide) (by decide) (by decide) (by decide) (by decide) (by decide)
theorem rd_imT {n : Nat} (x : List Int) (a : Int) {j : Nat} (hj : j < cycD n) : rd (imT n x a) j = wrap64 (gal n x a j) := tab_rd _ _ _ hj
/-- An image of a square is the square of the image. -/
theorem image_square {n : Nat} (h1 : 1 ≤ n) (h2 : n ≤ 16) {x y P Q : List Int} (hx : GoodZ n x) (hy : GoodZ n y) {a : Nat} (ha : Nat.gcd a n = 1) (hP : mulO n x y = some P) (hQ : mulO n (imT n x (a : Int)) (imT n y (a : Int)) = some Q) : imT n P (a : Int) = Q := by
  rw [imT_nat h1 h2 (mulO_good hP), ]
  rw [imT_nat h1 h2 hx, imT_nat h1 h2 hy] at hQ
  unfold mulO at hP hQ
  split at hP
  · split at hQ
    · cases hP
      cases hQ
      exact tab_congr fun m hm => gal_bil h1 h2 a ha x y m hm
    · cases hQ
  · cases hP
theorem bar_bar {n : Nat} (h1 : 1 ≤ n) (h2 : n ≤ 16) {x : List Int} (hx : GoodZ n x) (hy : GoodZ n (imT n x (-1))) : imT n (imT n x (-1)) (-1) = x := by
  obtain ⟨g, s⟩ := neg_tab n h1 h2
  rw [imT_neg h1 (imT n x (-1)), imT_nat h1 h2 hy, imT_neg h1, imT_nat h1 h2 hx]
  refine (tab_ext hx.1 fun m hm => ?_).symm
  rw [gal_gal h1 h2 _ _ g x m hm, gal_one (cyc_facts h1 h2) x hx.1 _ s m hm]
theorem plusL_length (x y : List Int) (v : Int) : (plusL x y v).length = x.length := addIn_length y v 0 y.length 0 x
theorem good_wrapped {n : Nat} {x : List Int} (hx : GoodZ n x) : Wrapped x := fun j hj => by
  have := hx.2 j hj
  exact wrap_id (by omega) (by omega)
theorem plusL_rd {n : Nat} {x y : List Int} (hx : GoodZ n x) (hy : GoodZ n y) (hs : GoodZ n (plusL x y 1)) {j : Nat} (hj : j < cycD n) : rd (plusL x y 1) j = rd x j + rd y j := by
  have l1 := hx.1
  have l2 := hy.1
  obtain ⟨a1, a2, a3⟩ := addIn_facts y 1 0 y.length 0 x (by omega) (good_wrapped hx)
  have h := a3 (fun i => if j = i then 1 else 0)
  have e : sumF 0 y.length (fun i => rd y i * (if j = 0 + i then 1 else 0)) = rd y j := by
    have := dot_one y j (by omega)
    unfold dot at this
    rw [← this]
    exact sumF_congr _ 0 fun i _ _ => by rw [Nat.zero_add]
  have hl : j < (addIn y 1 0 y.length 0 x).length := by rw [a1]; omega
  rw [e, dot_one x j (by omega), dot_one _ j hl, Int.one_mul] at h
  have := h.eq
  have b1 := hx.2 j (by omega)
  have b2 := hy.2 j (by omega)
  have b3 := hs.2 j (by rw [plusL_length]; omega)
  unfold plusL at b3 ⊢
  rw [wrap_id (x := rd x j + rd y j) (by omega) (by omega), wrap_id (by omega) (by omega)] at this
  exact this
theorem galN_plus {n : Nat} {x y s : List Int} (hx : x.length = cycD n) (hy : y.length = cycD n) (hs : s.length = cycD n) (h : ∀ j : Nat, j < cycD n → rd s j = rd x j + rd y j) (a m : Nat) : galN n s a m = galN n x a m + galN n y a m := by
  unfold galN
  rw [hx, hy, hs, ← sumF_add]
  exact sumF_congr _ 0 fun i _ hi => by rw [h i (by omega), Int.add_mul]
theorem plus_bar {n : Nat} (h1 : 1 ≤ n) (h2 : n ≤ 16) {x : List Int} (hx : GoodZ n x) (hy : GoodZ n (imT n x (-1))) (hs : GoodZ n (plusL x (imT n x (-1)) 1)) : imT n (plusL x (imT n x (-1)) 1) (-1) = plusL x (imT n x (-1)) 1 := by
  obtain ⟨g, s⟩ := neg_tab n h1 h2
  have bb := bar_bar h1 h2 hx hy
  have hp := fun {j : Nat} (hj : j < cycD n) => plusL_rd hx hy hs hj
  have e1 : imT n x (-1) = tab (cycD n) (galN n x (n - 1)) := by rw [imT_neg h1, imT_nat h1 h2 hx]
  have e2 : imT n (imT n x (-1)) (-1) = tab (cycD n) (galN n (imT n x (-1)) (n - 1)) := by rw [imT_neg h1 (imT n x (-1)), imT_nat h1 h2 hy]
  rw [imT_neg h1 (plusL x (imT n x (-1)) 1), imT_nat h1 h2 hs]
  refine (tab_ext hs.1 fun m hm => ?_).symm
  rw [hp hm, galN_plus hx.1 hy.1 hs.1 (fun j hj => hp hj)]
  have f1 : rd (imT n x (-1)) m = galN n x (n - 1) m := by rw [e1, tab_rd _ _ _ hm]
  have f2 : rd x m = galN n (imT n x (-1)) (n - 1) m := by
    have := tab_rd (cycD n) (galN n (imT n x (-1)) (n - 1)) m hm
    rw [← this, ← e2, bb]
  omega
theorem galQ_le {n : Nat} (C : CycFacts n) (hn : 1 ≤ n) {x : List Int} (hx : within 1000000000 x) (hl : x.length ≤ 12) (q : Nat → Nat) (m : Nat) : -12000000000 ≤ galQ n x q m ∧ galQ n x q m ≤ 12000000000 := by
  have h := sumF_le (B := 1000000000) (f := fun i => rd x i * cycW n m (q i)) x.length 0 (fun i _ hi => by
    have := mul_le (hx i (by omega)) (cycW_small C hn m (q i))
    omega)
  unfold galQ
  omega
theorem lift_kept {n m : Nat} (h1 : 1 ≤ n) (h2 : n ≤ 16) (m1 : 1 ≤ m) (m2 : m ≤ 16) (hd : m % n = 0) {x : List Int} (hx : GoodZ n x) (hL : GoodZ m (liftT m (m / n) x)) {a : Nat} (ha1 : 1 ≤ a) (ha : Nat.gcd a m = 1) (hm : (a - 1) % n = 0) : imT m (liftT m (m / n) x) (a : Int) = liftT m (m / n) x := by
  have C := cyc_facts m1 m2
  have Cn := cyc_facts h1 h2
  have := Cn.le12
  have lx := hx.1
  have e : liftT m (m / n) x = tab (cycD m) (galQ m x (fun i => i * (m / n) % m)) := tab_congr fun j _ => by
    have := galQ_le C m1 hx.2 (by omega) (fun i => i * (m / n) % m) j
    exact w64_id (by omega) (by omega)
  rw [imT_nat m1 m2 hL, e]
  refine tab_congr fun j hj => ?_
  rw [gal_galQ m1 m2 a ha x _ j hj]
  unfold galQ
  refine sumF_congr _ 0 fun i _ _ => congrArg (rd x i * ·) ?_
  rw [cycW_mul, ← cycW_mod m j (i * (m / n) * a), ← cycW_mod m j (i * (m / n) % m), Nat.mod_mod]
  congr 1
  obtain ⟨t, ht⟩ : ∃ t, a = 1 + n * t := ⟨(a - 1) / n, by have := Nat.div_add_mod (a - 1) n; omega⟩
  have hs : n * (m / n) = m := by have := Nat.div_add_mod m n; omega
  rw [ht, Nat.mul_add, Nat.mul_one, show i * (m / n) * (n * t) = m * (i * t) by rw [Nat.mul_assoc, ← Nat.mul_assoc (m / n), Nat.mul_comm (m / n) n, hs, Nat.mul_left_comm], Nat.add_mul_mod_self_left]
theorem allF_true {n m : Nat} {x : List Int} (h : ∀ a : Nat, 1 ≤ a → Nat.gcd a n = 1 → (a - 1) % m = 0 → imT n x (a : Int) = x) : ∀ (d a : Nat), 1 ≤ a → allF n m x d a = true
  | 0, a, _ => rfl
  | d + 1, a, ha => by
    rw [allF]
    by_cases c : (a - 1) % m = 0 ∧ Nat.gcd a n = 1
    · rw [if_pos c, if_pos (h a ha c.2 c.1), allF_true h d (a + 1) (by omega)]
    · rw [if_neg c, allF_true h d (a + 1) (by omega)]
end Go.Proofs.Ytlohlekofckcgaa.F
/- What the functions of the first layer answer, when they answer. Plain. -/
namespace Go.Proofs.Ytlohlekofckcgaa.F
open Go.RowKit Go.Proofs.Ytlohlekofckcgaa.R
set_option linter.unusedVariables false
set_option linter.unusedSimpArgs false
theorem told3_zero {n : Int} {l : List Int} (h : (told3 n l).2.2 = 0) : smallL l = true ∧ told3 n l = (n, l, 0) := by
  unfold told3 at h ⊢
  split at h
  · rename_i c; exact ⟨c, if_pos c⟩
  · exact absurd h (by decide)
theorem isC_of {n : Nat} (h1 : 1 ≤ n) (h2 : n ≤ 16) {l : List Int} (hl : l.length = cycD n) (hs : smallL l = true) : isC (n : Int) l = true := by
  unfold isC
  rw [decide_eq_true (show 1 ≤ (n : Int) ∧ (n : Int) ≤ 16 by omega), Int.toNat_natCast, decide_eq_true hl, hs]
  rfl
theorem told3_len (n : Int) (l : List Int) : (told3 n l).2.1.length ≤ l.length := by
  unfold told3
  split
  · exact Nat.le_refl _
  · exact Nat.zero_le _
theorem gal3_zero {n a : Int} {x : List Int} (h : (gal3 n x a).2.2 = 0) : ∃ m b : Nat, n = m ∧ a = b ∧ 1 ≤ m ∧ m ≤ 16 ∧ GoodZ m x ∧ 1 ≤ b ∧ b ≤ m ∧ Nat.gcd b m = 1 ∧ smallL (imT m x (b : Int)) = true ∧ gal3 n x a = ((m : Int), imT m x (b : Int), 0) := by
  unfold gal3 at h ⊢
  split at h
  · rename_i c
    obtain ⟨m, rfl, h1, h2, h3, h4, h5⟩ := isC_x c
    rw [Int.toNat_natCast] at h ⊢
    split at h
    · rename_i c2
      obtain ⟨b, rfl⟩ : ∃ j : Nat, a = j := ⟨a.toNat, by omega⟩
      obtain ⟨s, e⟩ := told3_zero h
      exact ⟨m, b, rfl, rfl, h1, h2, h5, by omega, by omega, c2.2, s, by rw [if_pos c, if_pos c2, e]⟩
    · exact absurd h (by decide)
  · exact absurd h (by decide)
theorem gal3_len {n a : Int} {x : List Int} : (gal3 n x a).2.1.length ≤ 12 := by
  unfold gal3
  split
  · rename_i c
    obtain ⟨m, rfl, h1, h2, h3, h4, h5⟩ := isC_x c
    split
    · refine Nat.le_trans (told3_len _ _) ?_
      rw [imT_len, Int.toNat_natCast]
      exact le12 h1 h2
    · exact Nat.zero_le _
  · exact Nat.zero_le _
theorem mul3_zero {m n : Int} {x y : List Int} (h : (mul3 m x n y).2.2 = 0) : ∃ P, isC m x = true ∧ isC n y = true ∧ m = n ∧ mulO m.toNat x y = some P ∧ mul3 m x n y = (m, P, 0) := by
  unfold mul3 at h ⊢
  split at h
  · rename_i c; exact absurd h c
  · rename_i c
    obtain ⟨c1, c2, c3⟩ := codeC_zero (Decidable.of_not_not c)
    rw [if_neg c]
    cases e : mulO m.toNat x y with
    | none =>
      rw [e] at h
      have h : (3 : Int) = 0 := h
      omega
    | some P => exact ⟨P, c1, c2, c3, rfl, rfl⟩
theorem mul3_len {m n : Int} {x y : List Int} : (mul3 m x n y).2.1.length ≤ 12 := by
  unfold mul3
  split
  · exact Nat.zero_le _
  · rename_i c
    obtain ⟨c1, c2, c3⟩ := codeC_zero (Decidable.of_not_not c)
    obtain ⟨m, rfl, h1, h2, h3, h4, h5⟩ := isC_x c1
    rw [Int.toNat_natCast]
    cases e : mulO m x y with
    | none => exact Nat.zero_le _
    | some P =>
      have := (mulO_good e).1
      have := le12 h1 h2
      show P.length ≤ 12
      omega
/-- The square's image, and the image's square. -/
theorem square_kept {n a : Int} {x : List Int} (h : (gal3 n x a).2.2 = 0) (h1 : (mul3 n x n x).2.2 = 0) (h2 : (gal3 (mul3 n x n x).1 (mul3 n x n x).2.1 a).2.2 = 0)
    (h3 : (mul3 (gal3 n x a).1 (gal3 n x a).2.1 (gal3 n x a).1 (gal3 n x a).2.1).2.2 = 0) :
    (gal3 (mul3 n x n x).1 (mul3 n x n x).2.1 a).1 = (mul3 (gal3 n x a).1 (gal3 n x a).2.1 (gal3 n x a).1 (gal3 n x a).2.1).1 ∧
    (gal3 (mul3 n x n x).1 (mul3 n x n x).2.1 a).2.1 = (mul3 (gal3 n x a).1 (gal3 n x a).2.1 (gal3 n x a).1 (gal3 n x a).2.1).2.1 := by
  obtain ⟨m, b, rfl, rfl, m1, m2, gx, b1, b2, g, s, e⟩ := gal3_zero h
  obtain ⟨P, c1, c2, c3, p1, p2⟩ := mul3_zero h1
  rw [p2] at h2 ⊢
  obtain ⟨m', b', hm, hb, _, _, gp, _, _, _, sp, ep⟩ := gal3_zero h2
  have hm : m' = m := by have : (m : Int) = m' := hm; omega
  have hb : b' = b := by omega
  subst hm hb
  rw [e] at h3 ⊢
  obtain ⟨Q, d1, d2, d3, q1, q2⟩ := mul3_zero h3
  rw [q2, ep]
  rw [Int.toNat_natCast] at p1 q1
  exact ⟨rfl, image_square m1 m2 gx gx g p1 q1⟩
theorem bar3_zero {n : Int} {x : List Int} (h : (bar3 n x).2.2 = 0) : ∃ m : Nat, n = m ∧ 1 ≤ m ∧ m ≤ 16 ∧ GoodZ m x ∧ GoodZ m (imT m x (-1)) ∧ bar3 n x = ((m : Int), imT m x (-1), 0) := by
  unfold bar3 at h ⊢
  split at h
  · rename_i c
    obtain ⟨m, rfl, h1, h2, h3, h4, h5⟩ := isC_x c
    rw [Int.toNat_natCast] at h ⊢
    obtain ⟨s, e⟩ := told3_zero h
    exact ⟨m, rfl, h1, h2, h5, ⟨imT_len _ _ _, smallL_within.1 s⟩, by rw [if_pos c, e]⟩
  · exact absurd h (by decide)
theorem bar3_of {m : Nat} (h1 : 1 ≤ m) (h2 : m ≤ 16) {x : List Int} (hx : GoodZ m x) (hy : GoodZ m (imT m x (-1))) : bar3 (m : Int) x = ((m : Int), imT m x (-1), 0) := by
  unfold bar3
  rw [if_pos (isC_of h1 h2 hx.1 (good_small hx)), Int.toNat_natCast]
  unfold told3
  rw [if_pos (good_small hy)]
theorem bar3_len {n : Int} {x : List Int} : (bar3 n x).2.1.length ≤ 12 := by
  unfold bar3
  split
  · rename_i c
    obtain ⟨m, rfl, h1, h2, h3, h4, h5⟩ := isC_x c
    refine Nat.le_trans (told3_len _ _) ?_
    rw [imT_len, Int.toNat_natCast]
    exact le12 h1 h2
  · exact Nat.zero_le _
theorem bar_kept {n : Int} {x : List Int} (h : (bar3 n x).2.2 = 0) : bar3 (bar3 n x).1 (bar3 n x).2.1 = (n, x, 0) := by
  obtain ⟨m, rfl, m1, m2, gx, gy, e⟩ := bar3_zero h
  have bb := bar_bar m1 m2 gx gy
  rw [e]
  show bar3 (m : Int) (imT m x (-1)) = _
  rw [bar3_of m1 m2 gy (by rw [bb]; exact gx), bb]
theorem add3_len {m n : Int} {x y : List Int} {v : Int} : (add3 m x n y v).2.1.length ≤ 12 := by
  unfold add3
  split
  · exact Nat.zero_le _
  · rename_i c
    obtain ⟨c1, c2, c3⟩ := codeC_zero (Decidable.of_not_not c)
    obtain ⟨m, rfl, h1, h2, h3, h4, h5⟩ := isC_x c1
    split
    · refine Nat.le_trans (told3_len _ _) ?_
      rw [plusL_length]
      exact h4
    · exact Nat.zero_le _
theorem plus_kept {n : Int} {x : List Int} (h : (bar3 n x).2.2 = 0) (h2 : (add3 n x (bar3 n x).1 (bar3 n x).2.1 1).2.2 = 0) : real2 (add3 n x (bar3 n x).1 (bar3 n x).2.1 1).1 (add3 n x (bar3 n x).1 (bar3 n x).2.1 1).2.1 = (true, 0) := by
  obtain ⟨m, rfl, m1, m2, gx, gy, e⟩ := bar3_zero h
  rw [e] at h2 ⊢
  have h2 : (add3 (m : Int) x (m : Int) (imT m x (-1)) 1).2.2 = 0 := h2
  show real2 (add3 (m : Int) x (m : Int) (imT m x (-1)) 1).1 (add3 (m : Int) x (m : Int) (imT m x (-1)) 1).2.1 = _
  unfold add3 at h2 ⊢
  split at h2
  · rename_i c; exact absurd h2 c
  · rename_i c
    rw [if_neg c]
    rw [if_pos (show -1000 ≤ (1 : Int) ∧ (1 : Int) ≤ 1000 by omega)] at h2 ⊢
    obtain ⟨s, e3⟩ := told3_zero h2
    rw [e3]
    have gs : GoodZ m (plusL x (imT m x (-1)) 1) := ⟨by rw [plusL_length]; exact gx.1, smallL_within.1 s⟩
    show real2 (m : Int) (plusL x (imT m x (-1)) 1) = _
    unfold real2
    rw [if_pos (isC_of m1 m2 gs.1 s), Int.toNat_natCast, decide_eq_true (plus_bar m1 m2 gx gy gs)]
theorem lift3_len {n m : Int} {x : List Int} : (lift3 n x m).2.1.length ≤ 12 := by
  unfold lift3
  split
  · split
    · split
      · refine Nat.le_trans (told3_len _ _) ?_
        unfold liftT
        rw [tab_length]
        exact le12 (by omega) (by omega)
      · exact Nat.zero_le _
    · exact Nat.zero_le _
  · exact Nat.zero_le _
theorem lift3_kept {n m : Int} {x : List Int} (h : (lift3 n x m).2.2 = 0) : inF (lift3 n x m).1 (lift3 n x m).2.1 n = (true, 0) := by
  unfold lift3 at h ⊢
  split at h
  · rename_i c
    obtain ⟨n, rfl, h1, h2, h3, h4, h5⟩ := isC_x c
    rw [if_pos c]
    split at h
    · rename_i c2
      obtain ⟨m, rfl⟩ : ∃ j : Nat, m = j := ⟨m.toNat, by omega⟩
      rw [if_pos c2]
      rw [Int.toNat_natCast, Int.toNat_natCast] at h ⊢
      split at h
      · rename_i c3
        rw [if_pos c3]
        obtain ⟨s, e⟩ := told3_zero h
        rw [e]
        have hl : (liftT m (m / n) x).length = cycD m := tab_length _ _
        have gs : GoodZ m (liftT m (m / n) x) := ⟨hl, smallL_within.1 s⟩
        show inF (m : Int) (liftT m (m / n) x) (n : Int) = _
        unfold inF
        rw [if_pos (isC_of (by omega) (by omega) hl s), Int.toNat_natCast, Int.toNat_natCast, if_pos ⟨by omega, c3⟩]
        rw [allF_true (fun a a1 a2 a3 => lift_kept h1 h2 (by omega) (by omega) c3 h5 gs a1 a2 a3) m 1 (by omega)]
      · exact absurd h (by decide)
    · exact absurd h (by decide)
  · exact absurd h (by decide)
end Go.Proofs.Ytlohlekofckcgaa.F
/- Facts on the functions of the first layer: products by the other side. -/
namespace Go.Proofs.Ytlohlekofckcgaa.F
open Go.RowKit Go.Proofs.Ytlohlekofckcgaa.R
set_option linter.unusedVariables false
set_option linter.unusedSimpArgs false
section
variable {A : Type} (z : A)
theorem prod01_g9 {x y : List Int} (hx : x.length ≤ 100) (hy : y.length ≤ 100) {i : Nat} (hi : i < x.length) {K0 : List Int → A} : ∀ (d c k : Nat) (L : List Int), c + d = y.length → x.length + y.length ≤ L.length + 1 → d + 1 ≤ k →
    spec_l01Product.g9 z k y (i : Int) (c : Int) x L K0 = K0 (addIn y (rd x i) i d c L)
  | d, c, 0, L, _, _, hk => absurd hk (by omega)
  | 0, c, k + 1, L, hc, hL, hk => by
    rw [spec_l01Product.g9, if_neg (by omega)]
    rfl
  | d + 1, c, k + 1, L, hc, hL, hk => by
    have e : w64 ((i : Int) + (c : Int)) = ((i + c : Nat) : Int) := by rw [w64_id (by omega) (by omega)]; omega
    rw [spec_l01Product.g9, if_pos (by omega), e, inI_at z (by omega), inI_at z (by omega), inI_at z (by omega), inI_at z (by omega), w64_up (by omega), prod01_g9 hx hy hi d (c + 1) k _ (by omega) (by rw [List.length_set]; exact hL) (by omega)]
    rfl
theorem prod01_g4 {x y : List Int} (hx : x.length ≤ 100) (hy : y.length ≤ 100) {K0 : List Int → A} : ∀ (d i k : Nat) (L : List Int), i + d = x.length → x.length + y.length ≤ L.length + 1 → d + y.length + 2 ≤ k →
    spec_l01Product.g4 z k y (i : Int) x L K0 = K0 (addOut x y d i L)
  | d, i, 0, L, _, _, hk => absurd hk (by omega)
  | 0, i, k + 1, L, hi, hL, hk => by
    rw [spec_l01Product.g4, if_neg (by omega)]
    rfl
  | d + 1, i, k + 1, L, hi, hL, hk => by
    rw [spec_l01Product.g4, if_pos (by omega)]
    refine Eq.trans (prod01_g9 z hx hy (i := i) (by omega) y.length 0 k L (by omega) hL (by omega)) ?_
    rw [w64_up (by omega), prod01_g4 hx hy d (i + 1) k _ (by omega) (by rw [addIn_length]; exact hL) (by omega)]
    rfl
theorem product01_eq {n : Nat} (h1 : 1 ≤ n) (h2 : n ≤ 16) {x y : List Int} (hx : x.length ≤ 100) (hy : y.length ≤ 100) (h0 : 1 ≤ y.length) (k : Nat) (hk : 600 ≤ k) (Φ : Int → List Int → A) : spec_l01Product z k (n : Int) x y Φ = Φ n (tab (cycD n) fun m => wrap64 (bil n x y m)) := by
  obtain ⟨k, rfl⟩ := le_ex (show 1 ≤ k by omega)
  rw [spec_l01Product, step_succ]
  have e : w64 (w64 ((x.length : Int) + (y.length : Int)) - 1) = ((x.length + y.length - 1 : Nat) : Int) := by rw [w64_id (x := (x.length : Int) + y.length) (by omega) (by omega), w64_id (by omega) (by omega)]; omega
  rw [e, mkI_at z (by omega)]
  have hl : (List.replicate (x.length + y.length - 1) (0 : Int)).length = x.length + y.length - 1 := List.length_replicate
  have hd := fun w => dot_zeros (x.length + y.length - 1) w
  have hw := wrapped_zeros (x.length + y.length - 1)
  generalize List.replicate (x.length + y.length - 1) (0 : Int) = L at hl hd hw ⊢
  obtain ⟨a1, a2, a3⟩ := addOut_facts x y x.length 0 L (by omega) hw
  refine Eq.trans (prod01_g4 z hx hy x.length 0 k L (by omega) (by omega) (by omega)) ?_
  rw [reduce_eq z h1 h2 (by omega) a2 k (by omega)]
  refine congrArg (Φ (n : Int)) (tab_congr fun m _ => ?_)
  refine ((a3 (cycW n m)).trans (Cg.of ?_)).eq
  rw [hd, Int.zero_add]
  rfl
theorem times01_g4 {y : List Int} (hy : y.length ≤ 100) {K0 : List Int → List Int → A} : ∀ (d i k : Nat) (P Q : List Int), i + d = y.length → P.length ≤ 1000 + i → Q.length ≤ 1000 + i → d + 1 ≤ k →
    spec_l01Times.g4 z k (i : Int) y P Q K0 = K0 (P ++ (y.drop i).map lo5) (Q ++ (y.drop i).map hi5)
  | d, i, 0, P, Q, _, _, _, hk => absurd hk (by omega)
  | 0, i, k + 1, P, Q, hi, hP, hQ, hk => by
    rw [spec_l01Times.g4, if_neg (by omega), List.drop_of_length_le (by omega), List.map_nil, List.append_nil, List.map_nil, List.append_nil]
  | d + 1, i, k + 1, P, Q, hi, hP, hQ, hk => by
    rw [spec_l01Times.g4, if_pos (by omega), inI_at z (by omega), apI_ok z (by omega), inI_at z (by omega), apI_ok z (by omega), w64_up (by omega), times01_g4 hy d (i + 1) k _ _ (by omega) (by rw [List.length_append]; simp only [List.length_singleton]; omega) (by rw [List.length_append]; simp only [List.length_singleton]; omega) (by omega), drop_at y i (by omega), List.map_cons, List.map_cons, List.append_assoc, List.append_assoc]
    rfl
theorem tab_getD {d : Nat} {g : Nat → Int} {m : Nat} (hm : m < d) : (tab d g).getD m 0 = g m := by
  have := tab_rd d g m hm
  unfold rd at this
  rwa [Int.toNat_natCast] at this
def okH (H : Nat → Int) : Nat → Nat → Bool
  | 0, _ => true
  | d + 1, m => decide (-10000000000000 ≤ H m ∧ H m ≤ 10000000000000) && okH H d (m + 1)
theorem okH_all {H : Nat → Int} : ∀ (d m : Nat), (∀ j, m ≤ j → j < m + d → -10000000000000 ≤ H j ∧ H j ≤ 10000000000000) → okH H d m = true
  | 0, m, _ => rfl
  | d + 1, m, h => by
    rw [okH, okH_all d (m + 1) (fun j h1 h2 => h j (by omega) (by omega)), decide_eq_true (h m (Nat.le_refl _) (by omega))]
    rfl
theorem times01_g13 {D : Nat} (hD : D ≤ 100) {H L : Nat → Int} (hL : ∀ m, m < D → -1000000000000000000 ≤ L m ∧ L m ≤ 1000000000000000000) : ∀ (d m : Nat), m + d = D →
    ∃ R : List Int, R.length = D ∧ ∀ (k : Nat), d + 2 ≤ k → ∀ (K0 : Bool → List Int → A) (K1 : List Int → A), spec_l01Times.g13 z k (m : Int) (tab D L) (tab D H) (tab D fun j => if j < m then 100000 * H j + L j else 0) K0 K1 = bif okH H d m then K1 (tab D fun j => 100000 * H j + L j) else K0 false R
  | 0, m, hm => by
    have e : (tab D fun j => if j < m then 100000 * H j + L j else 0) = tab D fun j => 100000 * H j + L j := tab_congr (fun j hj => if_pos (by omega))
    rw [e]
    refine ⟨tab D fun j => 100000 * H j + L j, tab_length _ _, fun k hk K0 K1 => ?_⟩
    obtain ⟨k, rfl, hk⟩ := up (show 1 + 1 ≤ k by omega)
    rw [spec_l01Times.g13, if_neg (by rw [tab_length]; omega)]
    rfl
  | d + 1, m, hm => by
    have b := hL m (by omega)
    have l1 : m < (tab D L).length := by rw [tab_length]; omega
    have l2 : m < (tab D H).length := by rw [tab_length]; omega
    have l3 : m < (tab D fun j => if j < m then 100000 * H j + L j else 0).length := by rw [tab_length]; omega
    by_cases h : -10000000000000 ≤ H m ∧ H m ≤ 10000000000000
    · have e : (tab D fun j => if j < m then 100000 * H j + L j else 0).set m (w64 (w64 (H m * 100000) + L m)) = tab D fun j => if j < m + 1 then 100000 * H j + L j else 0 := by
        rw [tab_set, w64_id (x := H m * 100000) (by omega) (by omega), w64_id (by omega) (by omega)]
        refine tab_congr (fun j hj => ?_)
        by_cases c : m = j
        · subst c; rw [if_pos rfl, if_pos (by omega)]; omega
        · rw [if_neg c]
          by_cases c2 : j < m
          · rw [if_pos c2, if_pos (by omega)]
          · rw [if_neg c2, if_neg (by omega)]
      obtain ⟨R, g0, g3⟩ := times01_g13 hD hL d (m + 1) (by omega)
      refine ⟨R, g0, fun k hk K0 K1 => ?_⟩
      obtain ⟨k, rfl, hk⟩ := up (show d + 2 + 1 ≤ k by omega)
      obtain ⟨j, rfl⟩ := le_ex (show 1 ≤ k by omega)
      rw [spec_l01Times.g13, if_pos (by omega), inI_at z l2, in_eq, tab_getD (by omega), decide_eq_true h, Bool.not_true, cond_false, inI_at z l2, inI_at z l1, inI_at z l3, tab_getD (by omega), tab_getD (by omega), w64_up (by omega), e, g3 _ (by omega), okH, decide_eq_true h, Bool.true_and]
    · refine ⟨tab D fun j => if j < m then 100000 * H j + L j else 0, tab_length _ _, fun k hk K0 K1 => ?_⟩
      obtain ⟨k, rfl, hk⟩ := up (show d + 2 + 1 ≤ k by omega)
      obtain ⟨j, rfl⟩ := le_ex (show 1 ≤ k by omega)
      rw [spec_l01Times.g13, if_pos (by omega), inI_at z l2, in_eq, tab_getD (by omega), decide_eq_false h, Bool.not_false, cond_true, okH, decide_eq_false h, Bool.false_and, cond_false]
/-- The product by the other side: its list if it fits. -/
theorem times01_eq {n : Nat} (h1 : 1 ≤ n) (h2 : n ≤ 16) (n2 : Int) {x y : List Int} (hx : x.length = cycD n) (hy : y.length = cycD n) (bx : within 16000000000 x) (by_ : within 16000000000 y) :
    ∃ R, (R.length = cycD n ∧ (okB n x y = true → R = tab (cycD n) (bil n x y))) ∧ ∀ k, 800 ≤ k → ∀ Φ : Int → List Int → Bool → A, spec_l01Times z k (n : Int) x n2 y Φ = Φ n R (okB n x y) := by
  have C := cyc_facts h1 h2
  have c12 := C.le12
  have c1 := C.pos
  have hlo : within 100000 (y.map lo5) := by
    intro j hj
    rw [List.length_map] at hj
    rw [rd_map _ _ _ hj]
    exact (lohi (by_ j hj)).2.1
  have hhi : within 160000 (y.map hi5) := by
    intro j hj
    rw [List.length_map] at hj
    rw [rd_map _ _ _ hj]
    exact (lohi (by_ j hj)).2.2
  have bL : ∀ m, -230400000000000000 ≤ bil n x (y.map lo5) m ∧ bil n x (y.map lo5) m ≤ 230400000000000000 := fun m => by
    have := bil_le C h1 (by omega) (by omega) bx hlo (by omega) (by rw [List.length_map]; omega) m
    omega
  have bH : ∀ m, -368640000000000000 ≤ bil n x (y.map hi5) m ∧ bil n x (y.map hi5) m ≤ 368640000000000000 := fun m => by
    have := bil_le C h1 (by omega) (by omega) bx hhi (by omega) (by rw [List.length_map]; omega) m
    omega
  have eT : ∀ m, bil n x y m = 100000 * bil n x (y.map hi5) m + bil n x (y.map lo5) m := fun m => bil_split n x y by_ m
  have eL : (tab (cycD n) fun m => wrap64 (bil n x (y.map lo5) m)) = tab (cycD n) (bil n x (y.map lo5)) := tab_congr (fun m _ => wrap_id (by have := bL m; omega) (by have := bL m; omega))
  have eH : (tab (cycD n) fun m => wrap64 (bil n x (y.map hi5) m)) = tab (cycD n) (bil n x (y.map hi5)) := tab_congr (fun m _ => wrap_id (by have := bH m; omega) (by have := bH m; omega))
  have e0 : (tab (cycD n) fun j => if j < 0 then 100000 * bil n x (y.map hi5) j + bil n x (y.map lo5) j else 0) = List.replicate (cycD n) 0 := by
    rw [tab_zero]; exact tab_congr (fun j _ => if_neg (by omega))
  have eB : (tab (cycD n) fun j => 100000 * bil n x (y.map hi5) j + bil n x (y.map lo5) j) = tab (cycD n) (bil n x y) := tab_congr (fun j _ => (eT j).symm)
  obtain ⟨R, g0, g3⟩ := times01_g13 z (D := cycD n) (by omega) (H := bil n x (y.map hi5)) (L := bil n x (y.map lo5)) (fun m _ => by have := bL m; omega) (cycD n) 0 (by omega)
  rw [e0, eB] at g3
  have st : ∀ k, 800 ≤ k → ∀ Φ : Int → List Int → Bool → A, spec_l01Times z k (n : Int) x n2 y Φ = bif okH (bil n x (y.map hi5)) (cycD n) 0 then Φ n (tab (cycD n) (bil n x y)) (okB n x y) else Φ n R false := fun k hk Φ => by
    obtain ⟨k, rfl⟩ := le_ex (show 1 ≤ k by omega)
    simp only [spec_l01Times, step_succ]
    refine Eq.trans (times01_g4 z (by omega) y.length 0 k [] [] (by omega) (by simp) (by simp) (by omega)) ?_
    rw [List.drop_zero, List.nil_append, List.nil_append, product01_eq z h1 h2 (by omega) (by rw [List.length_map]; omega) (by rw [List.length_map]; omega) k (by omega), product01_eq z h1 h2 (by omega) (by rw [List.length_map]; omega) (by rw [List.length_map]; omega) k (by omega), eL, eH, zero01_eq z h1 h2 k (by omega)]
    refine Eq.trans (g3 k (by omega) _ _) ?_
    rw [fits_eq z (by rw [tab_length]; omega) _ k (by rw [tab_length]; omega)]
    rfl
  by_cases o : okH (bil n x (y.map hi5)) (cycD n) 0 = true
  · refine ⟨tab (cycD n) (bil n x y), ⟨tab_length _ _, fun _ => rfl⟩, fun k hk Φ => ?_⟩
    rw [st k hk, o, cond_true]
  · have ob : okB n x y = false := by
      cases c : okB n x y with
      | false => rfl
      | true =>
        refine absurd (okH_all (cycD n) 0 fun j _ hj => ?_) o
        have t := smallL_tab.1 c j (by omega)
        have := eT j
        have := bL j
        omega
    refine ⟨R, ⟨g0, fun h => by rw [ob] at h; cases h⟩, fun k hk Φ => ?_⟩
    rw [st k hk, ob]
    cases c : okH (bil n x (y.map hi5)) (cycD n) 0 with
    | true => exact absurd c o
    | false => rfl
end
end Go.Proofs.Ytlohlekofckcgaa.F
/- Norms of cyclotomic numbers, exact: they are rational, and the norm of a product is the product of the norms. Plain. -/
namespace Go.Proofs.Ytlohlekofckcgaa.F
open Go.RowKit Go.Proofs.Ytlohlekofckcgaa.R
set_option linter.unusedVariables false
set_option linter.unusedSimpArgs false
/-- The product, exact. -/
def mulT (n : Nat) (x y : List Int) : List Int := tab (cycD n) (bil n x y)
/-- The image, exact. -/
def imN (n : Nat) (x : List Int) (a : Nat) : List Int := tab (cycD n) (galN n x a)
/-- A whole number. -/
def ratT (n : Nat) (c : Int) : List Int := tab (cycD n) fun m => if m = 0 then c else 0
theorem mulT_len (n : Nat) (x y : List Int) : (mulT n x y).length = cycD n := tab_length _ _
theorem imN_len (n : Nat) (x : List Int) (a : Nat) : (imN n x a).length = cycD n := tab_length _ _
theorem ratT_len (n : Nat) (c : Int) : (ratT n c).length = cycD n := tab_length _ _
theorem bil_comm (n : Nat) (x y : List Int) (m : Nat) : bil n x y m = bil n y x m := by
  have e : ∀ (a b : List Int), bil n a b m = sumF 0 a.length (fun i => sumF 0 b.length (fun k => rd a i * (rd b k * cycW n m (i + k)))) := fun a b => sumF_congr _ 0 fun i _ _ => (sumF_left _ _ _ _).symm
  rw [e, e, sumF_swap]
  exact sumF_congr _ 0 fun k _ _ => sumF_congr _ 0 fun i _ _ => by rw [Int.mul_left_comm, Nat.add_comm]
theorem mulT_comm (n : Nat) (x y : List Int) : mulT n x y = mulT n y x := tab_congr fun m _ => bil_comm n x y m
theorem mulT_assoc {n : Nat} (h1 : 1 ≤ n) (h2 : n ≤ 16) (x y w : List Int) : mulT n (mulT n x y) w = mulT n x (mulT n y w) := by
  refine tab_congr fun m hm => ?_
  have L : bil n (mulT n x y) w m = sumF 0 x.length (fun i => rd x i * sumF 0 y.length (fun k => rd y k * sumF 0 w.length (fun l => rd w l * cycW n m (i + k + l)))) := by
    unfold bil
    rw [mulT_len, sumF_congr (cycD n) 0 (g := fun j => sumF 0 x.length (fun i => rd x i * sumF 0 y.length (fun k => rd y k * cycW n j (i + k))) * sumF 0 w.length (fun l => rd w l * cycW n m (j + l))) (fun j _ hj => by rw [mulT, tab_rd _ _ _ (by omega)]; rfl), lin]
    refine sumF_congr _ 0 fun i _ _ => congrArg (rd x i * ·) ?_
    rw [lin]
    refine sumF_congr _ 0 fun k _ _ => congrArg (rd y k * ·) ?_
    rw [lin2]
    exact sumF_congr _ 0 fun l _ _ => congrArg (rd w l * ·) (cyc_mul h1 h2 (i + k) l m hm)
  rw [L]
  unfold bil
  refine sumF_congr _ 0 fun i _ _ => congrArg (rd x i * ·) ?_
  rw [mulT_len, sumF_congr (cycD n) 0 (g := fun j => sumF 0 y.length (fun k => rd y k * sumF 0 w.length (fun l => rd w l * cycW n j (k + l))) * cycW n m (j + i)) (fun j _ hj => by rw [mulT, tab_rd _ _ _ (by omega), Nat.add_comm i j]; rfl), lin]
  refine sumF_congr _ 0 fun k _ _ => congrArg (rd y k * ·) ?_
  rw [lin]
  refine sumF_congr _ 0 fun l _ _ => congrArg (rd w l * ·) ?_
  rw [cyc_mul h1 h2 (k + l) i m hm]
  congr 1
  omega
theorem mulT_right {n : Nat} (h1 : 1 ≤ n) (h2 : n ≤ 16) (z w y : List Int) : mulT n (mulT n z w) y = mulT n (mulT n z y) w := by
  rw [mulT_assoc h1 h2, mulT_comm n w y, ← mulT_assoc h1 h2]
theorem mulT_four {n : Nat} (h1 : 1 ≤ n) (h2 : n ≤ 16) (z w p q : List Int) : mulT n (mulT n z w) (mulT n p q) = mulT n (mulT n z p) (mulT n w q) := by
  rw [mulT_assoc h1 h2, ← mulT_assoc h1 h2 w p q, mulT_comm n w p, mulT_assoc h1 h2 p w q, ← mulT_assoc h1 h2]
theorem dot_unit {n : Nat} (C : CycFacts n) {x : List Int} (hx : x.length = cycD n) {m : Nat} (hm : m < cycD n) : sumF 0 x.length (fun i => rd x i * cycW n m i) = rd x m := by
  rw [← dot_one x m (by omega)]
  unfold dot
  exact sumF_congr _ 0 fun i _ hi => by rw [C.unit i (by omega) m hm]
theorem rat_sum {n : Nat} (C : CycFacts n) (c : Int) (f : Nat → Int) : sumF 0 (cycD n) (fun k => rd (ratT n c) k * f k) = c * f 0 := by
  have h := sumF_hit 0 (fun k => c * f k) (cycD n) 0 (Nat.le_refl _) (by have := C.pos; omega)
  rw [← h]
  refine sumF_congr _ 0 fun k _ hk => ?_
  rw [ratT, tab_rd _ _ _ (by omega)]
  by_cases e : k = 0
  · rw [if_pos e, if_pos e.symm]
  · rw [if_neg e, if_neg (fun g => e g.symm), Int.zero_mul]
theorem bil_rat {n : Nat} (C : CycFacts n) {x : List Int} (hx : x.length = cycD n) (c : Int) {m : Nat} (hm : m < cycD n) : bil n x (ratT n c) m = c * rd x m := by
  unfold bil
  rw [ratT_len, sumF_congr _ 0 (g := fun i => c * (rd x i * cycW n m i)) (fun i _ _ => by rw [rat_sum C c, Nat.add_zero, Int.mul_left_comm]), sumF_left, dot_unit C hx hm]
theorem mulT_one {n : Nat} (C : CycFacts n) {x : List Int} (hx : x.length = cycD n) : mulT n x (ratT n 1) = x :=
  (tab_ext hx fun m hm => by rw [bil_rat C hx 1 hm, Int.one_mul]).symm
theorem rat_rat {n : Nat} (C : CycFacts n) (a b : Int) : mulT n (ratT n a) (ratT n b) = ratT n (a * b) := by
  refine tab_congr fun m hm => ?_
  rw [bil_rat C (ratT_len n a) b hm, ratT, tab_rd _ _ _ hm]
  by_cases e : m = 0
  · rw [if_pos e, if_pos e, Int.mul_comm]
  · rw [if_neg e, if_neg e, Int.mul_zero]
theorem imN_rat {n : Nat} (C : CycFacts n) (c : Int) (a : Nat) : imN n (ratT n c) a = ratT n c := by
  refine tab_congr fun m hm => ?_
  unfold galN
  rw [ratT_len, rat_sum C c, Nat.zero_mul, C.unit 0 C.pos m hm]
  by_cases e : m = 0
  · rw [if_pos e, if_pos e, Int.mul_one]
  · rw [if_neg e, if_neg e, Int.mul_zero]
theorem imN_mul {n : Nat} (h1 : 1 ≤ n) (h2 : n ≤ 16) {a : Nat} (ha : Nat.gcd a n = 1) (x y : List Int) : imN n (mulT n x y) a = mulT n (imN n x a) (imN n y a) := tab_congr fun m hm => gal_bil h1 h2 a ha x y m hm
theorem imN_imN {n : Nat} (h1 : 1 ≤ n) (h2 : n ≤ 16) (a : Nat) {b : Nat} (hb : Nat.gcd b n = 1) (x : List Int) : imN n (imN n x a) b = imN n x (a * b) := tab_congr fun m hm => gal_gal h1 h2 a b hb x m hm
theorem imN_mod (n : Nat) (x : List Int) {a b : Nat} (h : a % n = b % n) : imN n x a = imN n x b := by
  refine tab_congr fun m _ => sumF_congr _ 0 fun i _ _ => ?_
  rw [← cycW_mod n m (i * a), ← cycW_mod n m (i * b), Nat.mul_mod, h, ← Nat.mul_mod]
/-- The products of a list's numbers, exact. -/
def prodT (n : Nat) : List (List Int) → List Int → List Int
  | [], z => z
  | y :: t, z => prodT n t (mulT n z y)
theorem prodT_len (n : Nat) : ∀ (ys : List (List Int)) (z : List Int), z.length = cycD n → (prodT n ys z).length = cycD n
  | [], z, h => h
  | y :: t, z, h => prodT_len n t _ (mulT_len _ _ _)
theorem runO_prod {n : Nat} : ∀ (ys : List (List Int)) (z R : List Int), runO n ys z = some R → R = prodT n ys z
  | [], z, R, h => by unfold runO at h; cases h; rfl
  | y :: t, z, R, h => by
    unfold runO at h
    obtain ⟨z', h1, h2⟩ := Option.bind_eq_some_iff.1 h
    have e : z' = mulT n z y := by
      unfold mulO at h1
      split at h1
      · cases h1; rfl
      · cases h1
    rw [runO_prod t z' R h2, e]
    rfl
theorem prodT_mul {n : Nat} (h1 : 1 ≤ n) (h2 : n ≤ 16) (w : List Int) : ∀ (ys : List (List Int)) (z : List Int), prodT n ys (mulT n z w) = mulT n (prodT n ys z) w
  | [], z => rfl
  | y :: t, z => by
    show prodT n t (mulT n (mulT n z w) y) = mulT n (prodT n t (mulT n z y)) w
    rw [mulT_right h1 h2, prodT_mul h1 h2 w t]
theorem prodT_perm {n : Nat} (h1 : 1 ≤ n) (h2 : n ≤ 16) {ys zs : List (List Int)} (h : ys.Perm zs) : ∀ z, prodT n ys z = prodT n zs z := by
  induction h with
  | nil => intro z; rfl
  | cons a _ ih => intro z; exact ih _
  | swap a b l =>
    intro z
    show prodT n l (mulT n (mulT n z b) a) = prodT n l (mulT n (mulT n z a) b)
    rw [mulT_right h1 h2]
  | trans _ _ ih1 ih2 => intro z; rw [ih1 z, ih2 z]
theorem prodT_img {n : Nat} (h1 : 1 ≤ n) (h2 : n ≤ 16) {a : Nat} (ha : Nat.gcd a n = 1) : ∀ (ys : List (List Int)) (z : List Int), imN n (prodT n ys z) a = prodT n (ys.map fun y => imN n y a) (imN n z a)
  | [], z => rfl
  | y :: t, z => by
    show imN n (prodT n t (mulT n z y)) a = prodT n (t.map fun y => imN n y a) (mulT n (imN n z a) (imN n y a))
    rw [prodT_img h1 h2 ha t, imN_mul h1 h2 ha]
theorem prodT_both {n : Nat} (h1 : 1 ≤ n) (h2 : n ≤ 16) (f g : Nat → List Int) : ∀ (U : List Nat) (z w : List Int), prodT n (U.map fun a => mulT n (f a) (g a)) (mulT n z w) = mulT n (prodT n (U.map f) z) (prodT n (U.map g) w)
  | [], z, w => rfl
  | a :: U, z, w => by
    show prodT n (U.map fun a => mulT n (f a) (g a)) (mulT n (mulT n z w) (mulT n (f a) (g a))) = mulT n (prodT n (U.map f) (mulT n z (f a))) (prodT n (U.map g) (mulT n w (g a)))
    rw [mulT_four h1 h2, prodT_both h1 h2 f g U]
/-! ### The units -/
def unitsN (n : Nat) : List Nat := ((List.range n).map fun a => a + 1).filter fun a => Nat.gcd a n == 1
def turnN (n b a : Nat) : Nat := (a * b + n - 1) % n + 1
def unitsOk (n : Nat) : Bool := decide (unitsL (n : Int) = (unitsN n).map fun a : Nat => (a : Int)) && (decide ((unitsN n).length = cycD n) &&
  ((unitsN n).all fun b => ((unitsN n).map (turnN n b)).isPerm (unitsN n)) && (List.range n).all fun i => (List.range (cycD n)).all fun m => decide (m = 0) || decide (sumF 0 (cycD n) (fun q => cycW n m (i * (unitsN n).getD q 0)) = 0))
theorem units_all : ((List.range 16).all fun q => unitsOk (q + 1)) = true := by decide +kernel
theorem mem_unitsN {n a : Nat} : a ∈ unitsN n ↔ (1 ≤ a ∧ a ≤ n) ∧ Nat.gcd a n = 1 := by
  unfold unitsN
  rw [List.mem_filter, List.mem_map, beq_iff_eq]
  constructor
  · rintro ⟨⟨j, h, rfl⟩, h2⟩
    have := List.mem_range.1 h
    exact ⟨by omega, h2⟩
  · rintro ⟨h, h2⟩
    exact ⟨⟨a - 1, List.mem_range.2 (by omega), by omega⟩, h2⟩
structure UnitsFacts (n : Nat) : Prop where
  eqL : unitsL (n : Int) = (unitsN n).map fun a : Nat => (a : Int)
  len : (unitsN n).length = cycD n
  perm : ∀ b ∈ unitsN n, ((unitsN n).map (turnN n b)).Perm (unitsN n)
  none : ∀ i m, m ≠ 0 → m < cycD n → sumF 0 (cycD n) (fun q => cycW n m (i * (unitsN n).getD q 0)) = 0
theorem units_facts {n : Nat} (h1 : 1 ≤ n) (h2 : n ≤ 16) : UnitsFacts n := by
  have h := List.all_eq_true.1 units_all (n - 1) (List.mem_range.2 (by omega))
  have e : n - 1 + 1 = n := by omega
  rw [e] at h
  unfold unitsOk at h
  simp only [Bool.and_eq_true, decide_eq_true_eq, List.all_eq_true, List.mem_range, Bool.or_eq_true] at h
  obtain ⟨a, ⟨b, c⟩, d⟩ := h
  refine ⟨a, b, fun q hq => List.isPerm_iff.1 (c q hq), fun i m h0 hm => ?_⟩
  have g := (d (i % n) (Nat.mod_lt _ h1) m hm).resolve_left h0
  rw [← g]
  exact sumF_congr _ 0 fun q _ _ => by rw [cycW_mul]
theorem turnN_mod {n : Nat} (h1 : 1 ≤ n) (b a : Nat) : turnN n b a % n = a * b % n := by
  unfold turnN
  rw [Nat.mod_add_mod, show a * b + n - 1 + 1 = a * b + n by omega, Nat.add_mod_right]
/-- The product of all images, and the norm. -/
def nrmP (n : Nat) (x : List Int) : List Int := prodT n ((unitsN n).map (imN n x)) (ratT n 1)
def nrm (n : Nat) (x : List Int) : Int := rd (nrmP n x) (0 : Nat)
theorem nrmP_len (n : Nat) (x : List Int) : (nrmP n x).length = cycD n := prodT_len n _ _ (ratT_len n 1)
theorem images_turn {n : Nat} (h1 : 1 ≤ n) (h2 : n ≤ 16) (x : List Int) {b : Nat} (hb : b ∈ unitsN n) : ((unitsN n).map fun a => imN n x (a * b)).Perm ((unitsN n).map (imN n x)) := by
  have e : ((unitsN n).map fun a => imN n x (a * b)) = ((unitsN n).map (turnN n b)).map (imN n x) := by
    rw [List.map_map]
    exact List.map_congr_left fun a _ => imN_mod n x (turnN_mod h1 b a).symm
  rw [e]
  exact ((units_facts h1 h2).perm b hb).map _
theorem nrmP_inv {n : Nat} (h1 : 1 ≤ n) (h2 : n ≤ 16) (x : List Int) {b : Nat} (hb : b ∈ unitsN n) : imN n (nrmP n x) b = nrmP n x := by
  have gb := (mem_unitsN.1 hb).2
  unfold nrmP
  rw [prodT_img h1 h2 gb, imN_rat (cyc_facts h1 h2), List.map_map]
  have e : ((unitsN n).map ((fun y => imN n y b) ∘ imN n x)) = (unitsN n).map fun a => imN n x (a * b) := List.map_congr_left fun a _ => imN_imN h1 h2 a gb x
  rw [e, prodT_perm h1 h2 (images_turn h1 h2 x hb)]
theorem sumF_const (c : Int) : ∀ (d k : Nat), sumF k d (fun _ => c) = (d : Int) * c
  | 0, k => by unfold sumF; omega
  | d + 1, k => by
    show c + sumF (k + 1) d (fun _ => c) = _
    rw [sumF_const c d (k + 1), Int.natCast_add, Int.add_mul]
    omega
/-- What no image changes is a whole number. -/
theorem rational {n : Nat} (h1 : 1 ≤ n) (h2 : n ≤ 16) {P : List Int} (hl : P.length = cycD n) (h : ∀ b ∈ unitsN n, imN n P b = P) : P = ratT n (rd P (0 : Nat)) := by
  have U := units_facts h1 h2
  have C := cyc_facts h1 h2
  refine tab_ext hl fun m hm => ?_
  by_cases e : m = 0
  · rw [e, if_pos rfl]
  · rw [if_neg e]
    have s1 : sumF 0 (cycD n) (fun q => galN n P ((unitsN n).getD q 0) m) = (cycD n : Int) * rd P m := by
      rw [← sumF_const]
      refine sumF_congr _ 0 fun q _ hq => ?_
      have hq : q < (unitsN n).length := by rw [U.len]; omega
      have hm2 : (unitsN n).getD q 0 ∈ unitsN n := by rw [List.getD_eq_getElem?_getD, List.getElem?_eq_getElem hq, Option.getD_some]; exact List.getElem_mem hq
      have := tab_rd (cycD n) (galN n P ((unitsN n).getD q 0)) m hm
      rw [← this]
      exact congrArg (fun L => rd L m) (h _ hm2)
    have s2 : sumF 0 (cycD n) (fun q => galN n P ((unitsN n).getD q 0) m) = 0 := by
      unfold galN
      rw [sumF_swap, sumF_congr _ 0 (g := fun _ => (0 : Int)) (fun i _ _ => by rw [sumF_left, U.none i m e hm, Int.mul_zero]), sumF_zero]
    rw [s2] at s1
    have := C.pos
    rcases Int.mul_eq_zero.1 s1.symm with g | g
    · omega
    · exact g
theorem nrmP_rat {n : Nat} (h1 : 1 ≤ n) (h2 : n ≤ 16) (x : List Int) : nrmP n x = ratT n (nrm n x) := rational h1 h2 (nrmP_len n x) fun b hb => nrmP_inv h1 h2 x hb
theorem rat_zero {n : Nat} (C : CycFacts n) (c : Int) : rd (ratT n c) (0 : Nat) = c := by rw [ratT, tab_rd _ _ _ (by have := C.pos; omega), if_pos rfl]
/-- The norm of a product is the product of the norms. -/
theorem nrm_mul {n : Nat} (h1 : 1 ≤ n) (h2 : n ≤ 16) (x y : List Int) : nrm n (mulT n x y) = nrm n x * nrm n y := by
  have C := cyc_facts h1 h2
  have e : nrmP n (mulT n x y) = mulT n (nrmP n x) (nrmP n y) := by
    unfold nrmP
    rw [← prodT_both h1 h2, rat_rat C, Int.mul_one]
    congr 1
    exact List.map_congr_left fun a ha => imN_mul h1 h2 (mem_unitsN.1 ha).2 x y
  rw [nrmP_rat h1 h2 x, nrmP_rat h1 h2 y, rat_rat C] at e
  unfold nrm
  rw [e, rat_zero C]
  rfl
theorem nrm_img {n : Nat} (h1 : 1 ≤ n) (h2 : n ≤ 16) (x : List Int) {b : Nat} (hb : b ∈ unitsN n) : nrm n (imN n x b) = nrm n x := by
  unfold nrm nrmP
  have e : ((unitsN n).map (imN n (imN n x b))) = (unitsN n).map fun a => imN n x (a * b) := List.map_congr_left fun a ha => by rw [imN_imN h1 h2 b (mem_unitsN.1 ha).2, Nat.mul_comm]
  rw [e, prodT_perm h1 h2 (images_turn h1 h2 x hb)]
end Go.Proofs.Ytlohlekofckcgaa.F
/- Facts on norms: images, their products, norms, by the program. -/
namespace Go.Proofs.Ytlohlekofckcgaa.F
open Go.RowKit Go.Proofs.Ytlohlekofckcgaa.R
set_option linter.unusedVariables false
set_option linter.unusedSimpArgs false
def imgL (n : Nat) (x : List Int) : List (List Int) := (unitsL (n : Int)).map fun a => imT n x a
def norm2 (n : Int) (x : List Int) : Int × Int := if isC n x = true then (match runO n.toNat (imgL n.toNat x) (oneT n.toNat) with | some R => (rd R (0 : Nat), 0) | none => (0, 3)) else (0, 1)
theorem oneT_rat (n : Nat) : oneT n = ratT n 1 := rfl
theorem imgL_len {n : Nat} (h1 : 1 ≤ n) (h2 : n ≤ 16) (x : List Int) : (imgL n x).length = cycD n := by
  rw [imgL, List.length_map, (cyc_facts h1 h2).units]
theorem imgL_nat {n : Nat} (h1 : 1 ≤ n) (h2 : n ≤ 16) {x : List Int} (hx : GoodZ n x) : imgL n x = (unitsN n).map (imN n x) := by
  unfold imgL
  rw [(units_facts h1 h2).eqL, List.map_map]
  exact List.map_congr_left fun a _ => imT_nat h1 h2 hx a
theorem imgL_fair {n : Nat} (h1 : 1 ≤ n) (h2 : n ≤ 16) {x : List Int} (hx : GoodZ n x) : ∀ y ∈ imgL n x, FairZ n y := by
  intro y hy
  unfold imgL at hy
  obtain ⟨a, _, rfl⟩ := List.mem_map.1 hy
  exact imT_fair (cyc_facts h1 h2) h1 hx a
theorem norm2_zero {n : Int} {x : List Int} (h : (norm2 n x).2 = 0) : ∃ m : Nat, n = m ∧ 1 ≤ m ∧ m ≤ 16 ∧ GoodZ m x ∧ (norm2 n x).1 = nrm m x ∧ -1000000000 ≤ nrm m x ∧ nrm m x ≤ 1000000000 := by
  unfold norm2 at h ⊢
  split at h
  · rename_i c
    obtain ⟨m, rfl, h1, h2, h3, h4, h5⟩ := isC_x c
    rw [if_pos c]
    rw [Int.toNat_natCast] at h ⊢
    cases e : runO m (imgL m x) (oneT m) with
    | none => rw [e] at h; cases h
    | some R =>
      have g := runO_good _ _ _ (oneT_good m) e
      have hR := runO_prod _ _ _ e
      rw [imgL_nat h1 h2 h5, oneT_rat] at hR
      have hb := g.2 0 (by rw [g.1]; exact (cyc_facts h1 h2).pos)
      have e2 : rd R ((0 : Nat) : Int) = nrm m x := by rw [hR]; rfl
      rw [e2] at hb
      exact ⟨m, rfl, h1, h2, h5, e2, hb.1, hb.2⟩
  · cases h
theorem list_set0 {n : Nat} (h1 : 1 ≤ n) (h2 : n ≤ 16) : (List.replicate (cycD n) (0 : Int)).set 0 1 = oneT n := by
  have := (cyc_facts h1 h2).pos
  rw [tab_zero, tab_set, oneT]
  refine tab_congr fun m _ => ?_
  by_cases c : m = 0
  · rw [if_pos c.symm, if_pos c]
  · rw [if_neg (fun h => c h.symm), if_neg c]
theorem units_tab : ∀ n : Nat, 1 ≤ n → n ≤ 16 → ∀ (j : Nat) (A : Type) (z : A) (Φ : List Int → A), impl_unitsOf z (j + 100) (n : Int) Φ = Φ (unitsL (n : Int)) :=
  by16 (fun _ _ _ _ => by kernel_rfl) (fun _ _ _ _ => by kernel_rfl) (fun _ _ _ _ => by kernel_rfl) (fun _ _ _ _ => by kernel_rfl) (fun _ _ _ _ => by kernel_rfl) (fun _ _ _ _ => by kernel_rfl) (fun _ _ _ _ => by kernel_rfl) (fun _ _ _ _ => by kernel_rfl) (fun _ _ _ _ => by kernel_rfl) (fun _ _ _ _ => by kernel_rfl) (fun _ _ _ _ => by kernel_rfl) (fun _ _ _ _ => by kernel_rfl) (fun _ _ _ _ => by kernel_rfl) (fun _ _ _ _ => by kernel_rfl) (fun _ _ _ _ => by kernel_rfl) (fun _ _ _ _ => by kernel_rfl)
section
variable {A : Type} (z : A)
theorem unitsOf_eq {n : Nat} (h1 : 1 ≤ n) (h2 : n ≤ 16) (k : Nat) (hk : 100 ≤ k) (Φ : List Int → A) : impl_unitsOf z k (n : Int) Φ = Φ (unitsL (n : Int)) := by
  obtain ⟨j, rfl⟩ := le_ex hk
  exact units_tab n h1 h2 j A z Φ
theorem images_g4 {n : Nat} (h1 : 1 ≤ n) (h2 : n ≤ 16) {x : List Int} (hx : x.length ≤ 100) {U : List Int} (hU : ∀ a ∈ U, 1 ≤ a ∧ a ≤ 16) (hl : U.length ≤ 100) {K0 : List (List Int) → A} : ∀ (d i k : Nat) (acc : List (List Int)), i + d = U.length → acc.length = i → d + 140 ≤ k →
    impl_field_images.g4 z k (n : Int) (cycD n : Int) (cycP n) x (U.length : Int) (i : Int) acc U K0 = K0 (acc ++ (U.drop i).map fun a => imT n x a)
  | d, i, 0, acc, _, _, hk => absurd hk (by omega)
  | 0, i, k + 1, acc, hi, ha, hk => by
    rw [impl_field_images.g4, if_neg (by omega), List.drop_of_length_le (by omega), List.map_nil, List.append_nil]
  | d + 1, i, k + 1, acc, hi, ha, hk => by
    have hq : i < U.length := by omega
    have hm : U.getD i 0 ∈ U := by rw [getD_at hq]; exact List.getElem_mem _
    have hb := hU _ hm
    rw [impl_field_images.g4, if_pos (by omega), inI_at z hq, image_eq z h1 h2 hx (by omega) k (by omega), apI_ok z (by omega), w64_up (by omega), images_g4 h1 h2 hx hU hl d (i + 1) k _ (by omega) (by rw [List.length_append]; simp only [List.length_singleton]; omega) (by omega), drop_at U i (by omega), List.map_cons, List.append_assoc]
    rfl
theorem unitsL_bd {n : Nat} (h1 : 1 ≤ n) (h2 : n ≤ 16) : ∀ a ∈ unitsL (n : Int), 1 ≤ a ∧ a ≤ 16 := by
  intro a ha
  have := unit_range ha
  omega
theorem images_eq {n : Nat} (h1 : 1 ≤ n) (h2 : n ≤ 16) {x : List Int} (hx : x.length ≤ 100) (k : Nat) (hk : 300 ≤ k) (Φ : List (List Int) → A) : impl_field_images z k (n : Int) (cycD n : Int) (cycP n) x Φ = Φ (imgL n x) := by
  obtain ⟨k, rfl⟩ := le_ex (show 1 ≤ k by omega)
  have C := cyc_facts h1 h2
  have := C.units
  have := C.le12
  simp only [impl_field_images, step_succ]
  rw [unitsOf_eq z h1 h2 k (by omega)]
  exact images_g4 z h1 h2 hx (unitsL_bd h1 h2) (by omega) (unitsL (n : Int)).length 0 k [] (by omega) rfl (by omega)
theorem whole_eq {n : Nat} (h1 : 1 ≤ n) (h2 : n ≤ 16) (P : List (List Int)) (k : Nat) (hk : 1 ≤ k) (Φ : List Int → A) : impl_field_whole z k (n : Int) (cycD n : Int) P 1 Φ = Φ (oneT n) := by
  obtain ⟨k, rfl⟩ := le_ex hk
  have C := cyc_facts h1 h2
  have := C.pos
  have := C.le12
  simp only [impl_field_whole, step_succ]
  rw [mkI_at z (by omega), inI_0 z (by rw [List.length_replicate]; omega), list_set0 h1 h2]
theorem getD_rows {ys : List (List Int)} {i : Nat} (h : i < ys.length) : ys.getD i [] = ys[i] := by
  rw [List.getD_eq_getElem?_getD, List.getElem?_eq_getElem h, Option.getD_some]
theorem drop_rows {ys : List (List Int)} {i : Nat} (h : i < ys.length) : ys.drop i = ys.getD i [] :: ys.drop (i + 1) := by
  rw [getD_rows h, List.drop_eq_getElem_cons h]
end
end Go.Proofs.Ytlohlekofckcgaa.F
/- Facts on images by the other side, on different images. -/
namespace Go.Proofs.Ytlohlekofckcgaa.F
open Go.RowKit Go.Proofs.Ytlohlekofckcgaa.R
set_option linter.unusedVariables false
set_option linter.unusedSimpArgs false
def uF (n : Nat) : Nat → Nat → List Int
  | 0, _ => []
  | d + 1, i => if Nat.gcd i n = 1 then (i : Int) :: uF n d (i + 1) else uF n d (i + 1)
theorem uF_units : ∀ n : Nat, 1 ≤ n → n ≤ 16 → uF n n 1 = unitsL (n : Int) :=
  by16 (by decide +kernel) (by decide +kernel) (by decide +kernel) (by decide +kernel) (by decide +kernel) (by decide +kernel) (by decide +kernel) (by decide +kernel) (by decide +kernel) (by decide +kernel) (by decide +kernel) (by decide +kernel) (by decide +kernel) (by decide +kernel) (by decide +kernel) (by decide +kernel)
/-- A list of numbers, each with its order. -/
def prs (n : Nat) (ys : List (List Int)) : List (Int × List Int) := ys.map fun y => ((n : Int), y)
theorem prs_len (n : Nat) (ys : List (List Int)) : (prs n ys).length = ys.length := List.length_map _
theorem prs_getD {n : Nat} {ys : List (List Int)} {i : Nat} (h : i < ys.length) : (prs n ys).getD i (0, []) = ((n : Int), ys.getD i []) := by
  rw [List.getD_eq_getElem?_getD, List.getElem?_eq_getElem (by rw [prs_len]; exact h), Option.getD_some, getD_rows h]
  unfold prs
  rw [List.getElem_map]
theorem prs_app (n : Nat) (a b : List (List Int)) : prs n (a ++ b) = prs n a ++ prs n b := List.map_append
/-- The first ones of equal numbers. -/
def ddp : List (List Int) → List (List Int) → List (List Int)
  | [], acc => acc
  | y :: t, acc => if y ∈ acc then ddp t acc else ddp t (acc ++ [y])
section
variable {A : Type} (z : A)
theorem one01_tab : ∀ n : Nat, 1 ≤ n → n ≤ 16 → ∀ (j : Nat) (A : Type) (z : A) (Φ : Int → List Int → A), spec_l01One z (j + 300) (n : Int) Φ = Φ (n : Int) (oneT n) :=
  by16 (fun _ _ _ _ => by kernel_rfl) (fun _ _ _ _ => by kernel_rfl) (fun _ _ _ _ => by kernel_rfl) (fun _ _ _ _ => by kernel_rfl) (fun _ _ _ _ => by kernel_rfl) (fun _ _ _ _ => by kernel_rfl) (fun _ _ _ _ => by kernel_rfl) (fun _ _ _ _ => by kernel_rfl) (fun _ _ _ _ => by kernel_rfl) (fun _ _ _ _ => by kernel_rfl) (fun _ _ _ _ => by kernel_rfl) (fun _ _ _ _ => by kernel_rfl) (fun _ _ _ _ => by kernel_rfl) (fun _ _ _ _ => by kernel_rfl) (fun _ _ _ _ => by kernel_rfl) (fun _ _ _ _ => by kernel_rfl)
theorem one01_eq {n : Nat} (h1 : 1 ≤ n) (h2 : n ≤ 16) (k : Nat) (hk : 300 ≤ k) (Φ : Int → List Int → A) : spec_l01One z k (n : Int) Φ = Φ (n : Int) (oneT n) := by
  obtain ⟨j, rfl⟩ := le_ex hk
  exact one01_tab n h1 h2 j A z Φ
theorem images02_g4 {n : Nat} (h1 : 1 ≤ n) (h2 : n ≤ 16) {x : List Int} (hx : x.length ≤ 100) {K0 : List (Int × List Int) → List Int → A} : ∀ (d i k : Nat) (ys : List (List Int)) (U : List Int), i + d = n + 1 → ys.length ≤ i → U.length ≤ i → d + 350 ≤ k →
    spec_l02Images.g4 z k (i : Int) (n : Int) x (prs n ys) U K0 = K0 (prs n (ys ++ (uF n d i).map fun a => imT n x a)) (U ++ uF n d i)
  | d, i, 0, ys, U, _, _, _, hk => absurd hk (by omega)
  | 0, i, k + 1, ys, U, hi, hy, hU, hk => by
    rw [spec_l02Images.g4, if_neg (by omega), uF, List.map_nil, List.append_nil, List.append_nil]
  | d + 1, i, k + 1, ys, U, hi, hy, hU, hk => by
    have hg : ((Int.gcd (i : Int) (n : Int) : Nat) : Int) = ((Nat.gcd i n : Nat) : Int) := rfl
    have hl := prs_len n ys
    rw [spec_l02Images.g4, if_pos (by omega), sgcd_eq z (by omega) (by omega) k (by omega), hg, uF]
    by_cases c : Nat.gcd i n = 1
    · have e : prs n ys ++ [((n : Int), imT n x (i : Int))] = prs n (ys ++ [imT n x (i : Int)]) := (prs_app n ys [imT n x (i : Int)]).symm
      rw [if_pos (by omega), if_pos c, galois_eq z h1 h2 hx (by omega) k (by omega), apI_ok z (by omega), apI_ok z (by omega), w64_up (by omega), e, images02_g4 h1 h2 hx d (i + 1) k _ _ (by omega) (by rw [List.length_append]; simp only [List.length_singleton]; omega) (by rw [List.length_append]; simp only [List.length_singleton]; omega) (by omega), List.append_assoc, List.append_assoc]
      rfl
    · rw [if_neg (by omega), if_neg c, w64_up (by omega), images02_g4 h1 h2 hx d (i + 1) k _ _ (by omega) (by omega) (by omega) (by omega)]
theorem images02_eq {n : Nat} (h1 : 1 ≤ n) (h2 : n ≤ 16) {x : List Int} (hx : x.length ≤ 100) (k : Nat) (hk : 400 ≤ k) (Φ : List (Int × List Int) → List Int → A) : spec_l02Images z k (n : Int) x Φ = Φ (prs n (imgL n x)) (unitsL (n : Int)) := by
  obtain ⟨k, rfl⟩ := le_ex (show 1 ≤ k by omega)
  simp only [spec_l02Images, step_succ]
  refine Eq.trans (images02_g4 z h1 h2 hx n 1 k [] [] (by omega) (by simp) (by simp) (by omega)) ?_
  rw [uF_units n h1 h2, List.nil_append, List.nil_append]
  rfl
/-! ### Different ones -/
theorem index2_g {l : List (List Int)} (hl : l.length ≤ 1000) {y : List Int} (hy : y.length ≤ 1000) {K0 : Int → A} {K1 Kt : A} (hK : ∀ i : Nat, K0 (i : Int) = Kt) : ∀ (d i k : Nat), i + d = l.length → d + 1100 ≤ k →
    slices_IndexFunc_SSint64_Sint64_c59.g3 z k l y (l.length : Int) (i : Int) K0 K1 = bif decide (y ∈ l.drop i) then Kt else K1
  | d, i, 0, _, hk => absurd hk (by omega)
  | 0, i, k + 1, hi, hk => by
    rw [slices_IndexFunc_SSint64_Sint64_c59.g3, if_neg (by omega), List.drop_of_length_le (by omega)]
    rfl
  | d + 1, i, k + 1, hi, hk => by
    obtain ⟨k, rfl⟩ := le_ex (show 1 ≤ k by omega)
    have hq : i < l.length := by omega
    have e1 : ∀ Ψ : Bool → A, impl_different_1 z (k + 1) (l.getD i []) y Ψ = Ψ (decide (y = l.getD i [])) := fun Ψ => by
      simp only [impl_different_1, step_succ]
      rw [equal_eq z (by omega) k (by omega)]
    rw [slices_IndexFunc_SSint64_Sint64_c59.g3, if_pos (by omega), inI_at z hq, e1, drop_rows hq]
    by_cases c : y = l.getD i []
    · rw [decide_eq_true c, cond_true, decide_eq_true (by rw [c]; exact List.mem_cons_self), hK]; rfl
    · rw [decide_eq_false c, cond_false, w64_up (by omega), index2_g hl hy hK d (i + 1) (k + 1) (by omega) (by omega)]
      congr 1
      by_cases e : y ∈ l.drop (i + 1)
      · rw [decide_eq_true e, decide_eq_true (List.mem_cons_of_mem _ e)]
      · rw [decide_eq_false e, decide_eq_false (fun h => by
          rcases List.mem_cons.1 h with h | h
          · exact c h
          · exact e h)]
theorem contains2_eq {l : List (List Int)} (hl : l.length ≤ 1000) {y : List Int} (hy : y.length ≤ 1000) (k : Nat) (hk : l.length + 1200 ≤ k) (Φ : Bool → A) : slices_ContainsFunc_SSint64_Sint64_c59 z k l y Φ = Φ (decide (y ∈ l)) := by
  obtain ⟨k, rfl⟩ := le_ex (show 2 ≤ k by omega)
  simp only [slices_ContainsFunc_SSint64_Sint64_c59, slices_IndexFunc_SSint64_Sint64_c59, step_succ]
  refine Eq.trans (index2_g z hl hy (Kt := Φ true) (fun i => by rw [decide_eq_true (by omega)]) l.length 0 k (by omega) (by omega)) ?_
  rw [List.drop_zero]
  by_cases c : y ∈ l
  · rw [decide_eq_true c]; rfl
  · rw [decide_eq_false c, cond_false, decide_eq_false (by omega)]
theorem different_g4 {ys : List (List Int)} (hl : ys.length ≤ 100) (hy : ∀ y ∈ ys, y.length ≤ 1000) {K0 : List (List Int) → A} : ∀ (d i k : Nat) (acc : List (List Int)), i + d = ys.length → acc.length ≤ i → d + 1400 ≤ k →
    impl_different.g4 z k ys (ys.length : Int) (i : Int) acc K0 = K0 (ddp (ys.drop i) acc)
  | d, i, 0, acc, _, _, hk => absurd hk (by omega)
  | 0, i, k + 1, acc, hi, ha, hk => by
    rw [impl_different.g4, if_neg (by omega), List.drop_of_length_le (by omega)]
    rfl
  | d + 1, i, k + 1, acc, hi, ha, hk => by
    have hq : i < ys.length := by omega
    have hm := hy _ (show ys.getD i [] ∈ ys by rw [getD_rows hq]; exact List.getElem_mem _)
    rw [impl_different.g4, if_pos (by omega), inI_at z hq, contains2_eq z (by omega) hm k (by omega), drop_rows hq, ddp]
    by_cases c : ys.getD i [] ∈ acc
    · rw [decide_eq_true c, Bool.not_true, cond_false, if_pos c, w64_up (by omega), different_g4 hl hy d (i + 1) k acc (by omega) (by omega) (by omega)]
    · rw [decide_eq_false c, Bool.not_false, cond_true, if_neg c, apI_ok z (by omega), w64_up (by omega), different_g4 hl hy d (i + 1) k _ (by omega) (by rw [List.length_append]; simp only [List.length_singleton]; omega) (by omega)]
theorem different_eq {ys : List (List Int)} (hl : ys.length ≤ 100) (hy : ∀ y ∈ ys, y.length ≤ 1000) (k : Nat) (hk : 1600 ≤ k) (Φ : List (List Int) → A) : impl_different z k ys Φ = Φ (ddp ys []) := by
  obtain ⟨k, rfl⟩ := le_ex (show 1 ≤ k by omega)
  simp only [impl_different, step_succ]
  exact different_g4 z hl hy ys.length 0 k [] (by omega) (by simp) (by omega)
end
end Go.Proofs.Ytlohlekofckcgaa.F
/- Facts on polynomials with given roots, by both sides. -/
namespace Go.Proofs.Ytlohlekofckcgaa.F
open Go.RowKit Go.Proofs.Ytlohlekofckcgaa.R
set_option linter.unusedVariables false
set_option linter.unusedSimpArgs false
def subL (n : Nat) (b w : List Int) : List Int := tab (cycD n) fun m => rd b m - rd w m
/-- The next number of the product with T - v: at place q. -/
def baseQ (n : Nat) (P : List (List Int)) (q : Nat) : List Int := if q = 0 then List.replicate (cycD n) 0 else P.getD (q - 1) []
def stepQ (n : Nat) (P : List (List Int)) (v : List Int) (q : Nat) : Option (List Int) :=
  if q < P.length then (match mulO n v (P.getD q []) with
    | some w => if smallL (subL n (baseQ n P q) w) then some (subL n (baseQ n P q) w) else none
    | none => none) else (if smallL (baseQ n P q) then some (baseQ n P q) else none)
def polyF (n : Nat) (P : List (List Int)) (v : List Int) : Nat → Nat → List (List Int) → Option (List (List Int))
  | 0, _, acc => some acc
  | d + 1, q, acc => match stepQ n P v q with
    | some r => polyF n P v d (q + 1) (acc ++ [r])
    | none => none
def polyAll (n : Nat) : List (List Int) → List (List Int) → Option (List (List Int))
  | [], P => some P
  | v :: t, P => match polyF n P v (P.length + 1) 0 [] with
    | some Q => polyAll n t Q
    | none => none
def GoodP (n : Nat) (P : List (List Int)) : Prop := ∀ y ∈ P, GoodZ n y
theorem subL_len (n : Nat) (b w : List Int) : (subL n b w).length = cycD n := tab_length _ _
theorem zero_good (n : Nat) : GoodZ n (List.replicate (cycD n) 0) := by
  refine ⟨List.length_replicate, fun j hj => ?_⟩
  rw [List.length_replicate] at hj
  rw [rd_nat _ _ (by simpa using hj), List.getElem_replicate]
  omega
theorem rows_good {n : Nat} {P : List (List Int)} (hP : GoodP n P) {q : Nat} (h : q < P.length) : GoodZ n (P.getD q []) := by
  rw [getD_rows h]
  exact hP _ (List.getElem_mem _)
theorem baseQ_good {n : Nat} {P : List (List Int)} (hP : GoodP n P) {q : Nat} (h : q ≤ P.length) : GoodZ n (baseQ n P q) := by
  unfold baseQ
  by_cases c : q = 0
  · rw [if_pos c]; exact zero_good n
  · rw [if_neg c]; exact rows_good hP (by omega)
theorem stepQ_good {n : Nat} {P : List (List Int)} (hP : GoodP n P) {v r : List Int} {q : Nat} (hq : q ≤ P.length) (h : stepQ n P v q = some r) : GoodZ n r := by
  unfold stepQ at h
  by_cases c : q < P.length
  · rw [if_pos c] at h
    cases e : mulO n v (P.getD q []) with
    | none => rw [e] at h; cases h
    | some w =>
      rw [e] at h
      dsimp only at h
      by_cases c2 : smallL (subL n (baseQ n P q) w) = true
      · rw [if_pos c2] at h
        cases h
        exact ⟨subL_len _ _ _, smallL_within.1 c2⟩
      · rw [if_neg c2] at h; cases h
  · rw [if_neg c] at h
    by_cases c2 : smallL (baseQ n P q) = true
    · rw [if_pos c2] at h
      cases h
      exact baseQ_good hP hq
    · rw [if_neg c2] at h; cases h
theorem polyF_good {n : Nat} {P : List (List Int)} (hP : GoodP n P) {v : List Int} : ∀ (d q : Nat) (acc Q : List (List Int)), q + d = P.length + 1 → GoodP n acc → polyF n P v d q acc = some Q → GoodP n Q ∧ Q.length = acc.length + d
  | 0, q, acc, Q, _, ha, h => by cases h; exact ⟨ha, rfl⟩
  | d + 1, q, acc, Q, hq, ha, h => by
    unfold polyF at h
    cases e : stepQ n P v q with
    | none => rw [e] at h; cases h
    | some r =>
      rw [e] at h
      have hr := stepQ_good hP (by omega) e
      obtain ⟨g1, g2⟩ := polyF_good hP d (q + 1) (acc ++ [r]) Q (by omega) (fun y hy => by
        rcases List.mem_append.1 hy with hy | hy
        · exact ha y hy
        · rw [List.mem_singleton.1 hy]; exact hr) h
      refine ⟨g1, ?_⟩
      rw [g2, List.length_append, List.length_singleton]
      omega
theorem polyAll_good {n : Nat} : ∀ (vs P Q : List (List Int)), GoodP n P → polyAll n vs P = some Q → GoodP n Q ∧ Q.length = P.length + vs.length
  | [], P, Q, hP, h => by cases h; exact ⟨hP, rfl⟩
  | v :: t, P, Q, hP, h => by
    unfold polyAll at h
    cases e : polyF n P v (P.length + 1) 0 [] with
    | none => rw [e] at h; cases h
    | some R =>
      rw [e] at h
      obtain ⟨g1, g2⟩ := polyF_good hP _ 0 [] R (by omega) (fun y hy => by cases hy) e
      obtain ⟨g3, g4⟩ := polyAll_good t R Q g1 h
      refine ⟨g3, ?_⟩
      rw [g4, g2, List.length_cons]
      simp
      omega
theorem subL_rd {n : Nat} (b w : List Int) {m : Nat} (hm : m < cycD n) : rd (subL n b w) m = rd b m - rd w m := tab_rd _ _ _ hm
theorem getD_rd (b : List Int) (j : Nat) : b.getD j 0 = rd b j := by unfold rd; rw [Int.toNat_natCast]
/-- Taken off one by one. -/
def subIn (w : List Int) : Nat → Nat → List Int → List Int
  | 0, _, L => L
  | d + 1, c, L => subIn w d (c + 1) (L.set c (rd L c - rd w c))
theorem subIn_rd (w : List Int) : ∀ (d c : Nat) (L : List Int), c + d ≤ L.length → (subIn w d c L).length = L.length ∧ ∀ m : Nat, m < L.length → rd (subIn w d c L) m = if c ≤ m ∧ m < c + d then rd L m - rd w m else rd L m
  | 0, c, L, _ => ⟨rfl, fun m _ => by rw [if_neg (by omega)]; rfl⟩
  | d + 1, c, L, h => by
    obtain ⟨a, b⟩ := subIn_rd w d (c + 1) (L.set c (rd L c - rd w c)) (by rw [List.length_set]; omega)
    rw [List.length_set] at a b
    refine ⟨a, fun m hm => ?_⟩
    show rd (subIn w d (c + 1) (L.set c (rd L c - rd w c))) m = _
    rw [b m hm, rd_set _ _ _ _ hm]
    by_cases c1 : c = m
    · subst c1
      rw [if_neg (by omega), if_pos rfl, if_pos (by omega)]
    · rw [if_neg c1]
      by_cases c2 : c + 1 ≤ m ∧ m < c + 1 + d
      · rw [if_pos c2, if_pos (by omega)]
      · rw [if_neg c2, if_neg (by omega)]
theorem subIn_all {n : Nat} {b w : List Int} (hb : b.length = cycD n) : subIn w (cycD n) 0 b = subL n b w := by
  obtain ⟨a1, a2⟩ := subIn_rd w (cycD n) 0 b (by omega)
  refine tab_ext (by rw [a1, hb]) fun m hm => ?_
  rw [a2 m (by omega), if_pos (by omega)]
theorem addIn_neg {y : List Int} (hy : within 1000000000 y) : ∀ (d c : Nat) (L : List Int), c + d = y.length → y.length ≤ L.length → within 1000000000 L ∨ True → (∀ j : Nat, c ≤ j → j < y.length → -1000000000 ≤ rd L j ∧ rd L j ≤ 1000000000) → addIn y (-1) 0 d c L = subIn y d c L
  | 0, c, L, _, _, _, _ => rfl
  | d + 1, c, L, hc, hl, _, hw => by
    have b1 := hy c (by omega)
    have b2 := hw c (Nat.le_refl _) (by omega)
    have e : wrap64 (rd L (0 + c : Nat) + wrap64 (-1 * rd y c)) = rd L c - rd y c := by
      rw [Nat.zero_add, wrap_id (x := -1 * rd y c) (by omega) (by omega), wrap_id (by omega) (by omega)]
      omega
    show addIn y (-1) 0 d (c + 1) (L.set (0 + c) (wrap64 (rd L (0 + c : Nat) + wrap64 (-1 * rd y c)))) = subIn y d (c + 1) (L.set c (rd L c - rd y c))
    rw [e, Nat.zero_add]
    exact addIn_neg hy d (c + 1) _ (by omega) (by rw [List.length_set]; exact hl) (.inr trivial) (fun j h1 h2 => by
      rw [rd_set _ _ _ _ (by omega), if_neg (by omega)]
      exact hw j (by omega) h2)
section
variable {A : Type} (z : A)
theorem rooted_g27 {n : Nat} {w : List Int} (hw : GoodZ n w) (hD : cycD n ≤ 12) {K0 : List Int → A} : ∀ (d c k : Nat) (L : List Int), c + d = cycD n → L.length = cycD n → (∀ j : Nat, c ≤ j → j < cycD n → -1000000000 ≤ rd L j ∧ rd L j ≤ 1000000000) → d + 1 ≤ k →
    impl_field_rooted.g27 z k (w.length : Int) (c : Int) L w K0 = K0 (subIn w d c L)
  | d, c, 0, L, _, _, _, hk => absurd hk (by omega)
  | 0, c, k + 1, L, hc, hl, hb, hk => by
    rw [impl_field_rooted.g27, if_neg (by rw [hw.1]; omega)]
    rfl
  | d + 1, c, k + 1, L, hc, hl, hb, hk => by
    have h1 := hw.1
    have b1 := hw.2 c (by omega)
    have b2 := hb c (Nat.le_refl _) (by omega)
    rw [impl_field_rooted.g27, if_pos (by omega), inI_at z (by omega), inI_at z (by omega), inI_at z (by omega), getD_rd, getD_rd, w64_id (x := rd L c - rd w c) (by omega) (by omega), w64_up (by omega), rooted_g27 hw hD d (c + 1) k _ (by omega) (by rw [List.length_set]; exact hl) (fun j h1 h2 => by
      rw [rd_set _ _ _ _ (by omega), if_neg (by omega)]
      exact hb j (by omega) h2) (by omega)]
    rfl
theorem rooted_g18 {n : Nat} (h1 : 1 ≤ n) (h2 : n ≤ 16) {P : List (List Int)} (hP : GoodP n P) (hl : P.length ≤ 50) {v : List Int} (hv : FairZ n v) {acc : List (List Int)} (ha : acc.length ≤ 100) {q : Nat} (hq : q ≤ P.length) {K0 : Bool → List Int → A} {K1 : List (List Int) → A} (k : Nat) (hk : 320 ≤ k) :
    impl_field_rooted.g18 z k (n : Int) (cycD n : Int) (cycP n) v (q : Int) P acc (baseQ n P q) K0 K1 = match stepQ n P v q with | some r => K1 (acc ++ [r]) | none => K0 false [] := by
  obtain ⟨k, rfl⟩ := le_ex (show 1 ≤ k by omega)
  have C := cyc_facts h1 h2
  have := C.le12
  have hb := baseQ_good hP hq
  rw [impl_field_rooted.g18]
  unfold stepQ
  by_cases c : q < P.length
  · have hg := rows_good hP c
    rw [if_pos (by omega), if_pos c, inI_at z c, times_eq2 h1 h2 hv.2 (by rw [hv.1]; omega) hg.2 (by rw [hg.1]; omega) z k (by omega)]
    unfold mulO
    by_cases ho : okB n v (P.getD q []) = true
    · have hs := smallL_tab.1 ho
      have e : (tab (cycD n) fun m => w64 (bil n v (P.getD q []) m)) = tab (cycD n) (bil n v (P.getD q [])) := tab_congr fun m hm => by have := hs m hm; exact w64_id (by omega) (by omega)
      have hw : GoodZ n (tab (cycD n) (bil n v (P.getD q []))) := ⟨tab_length _ _, smallL_within.1 ho⟩
      rw [ho, Bool.not_true, cond_false, e, if_pos rfl]
      refine Eq.trans (rooted_g27 z hw (by omega) (cycD n) 0 k (baseQ n P q) (by omega) hb.1 (fun j _ hj => hb.2 j (by rw [hb.1]; exact hj)) (by omega)) ?_
      rw [subIn_all hb.1]
      generalize tab (cycD n) (bil n v (P.getD q [])) = w at *
      dsimp only
      rw [areSmall_eq z (by rw [subL_len]; omega) (by omega) k (by rw [subL_len]; omega)]
      have hsm : smallB 1000000000 (subL n (baseQ n P q) w) = smallL (subL n (baseQ n P q) w) := rfl
      rw [hsm]
      cases smallL (subL n (baseQ n P q) w) with
      | false => rfl
      | true =>
        rw [Bool.not_true, cond_false, apI_ok z (by omega)]
        rfl
    · rw [show okB n v (P.getD q []) = false by simpa using ho]
      rfl
  · rw [if_neg (by omega), if_neg c, areSmall_eq z (by rw [hb.1]; omega) (by omega) k (by rw [hb.1]; omega)]
    have hsm : smallB 1000000000 (baseQ n P q) = smallL (baseQ n P q) := rfl
    rw [hsm]
    cases smallL (baseQ n P q) with
    | false => rfl
    | true =>
      rw [Bool.not_true, cond_false, apI_ok z (by omega)]
      rfl
theorem rooted_g12 {n : Nat} (h1 : 1 ≤ n) (h2 : n ≤ 16) {P : List (List Int)} (hP : GoodP n P) (hl : P.length ≤ 50) {v : List Int} (hv : FairZ n v) {K0 : Bool → List Int → A} {K1 : List (List Int) → A} : ∀ (d q k : Nat) (acc : List (List Int)), q + d = P.length + 1 → acc.length ≤ q → d + 330 ≤ k →
    impl_field_rooted.g12 z k (n : Int) (cycD n : Int) (cycP n) v ((P.length + 1 : Nat) : Int) (q : Int) P acc K0 K1 = match polyF n P v d q acc with | some Q => K1 Q | none => K0 false []
  | d, q, 0, acc, _, _, hk => absurd hk (by omega)
  | 0, q, k + 1, acc, hq, ha, hk => by
    rw [impl_field_rooted.g12, if_neg (by omega)]
    rfl
  | d + 1, q, k + 1, acc, hq, ha, hk => by
    have C := cyc_facts h1 h2
    have := C.le12
    have st : impl_field_rooted.g12 z (k + 1) (n : Int) (cycD n : Int) (cycP n) v ((P.length + 1 : Nat) : Int) (q : Int) P acc K0 K1 = impl_field_rooted.g18 z k (n : Int) (cycD n : Int) (cycP n) v (q : Int) P acc (baseQ n P q) K0 (fun Q => impl_field_rooted.g12 z k (n : Int) (cycD n : Int) (cycP n) v ((P.length + 1 : Nat) : Int) (w64 ((q : Int) + 1)) P Q K0 K1) := by
      rw [impl_field_rooted.g12, if_pos (by omega), mkI_at z (by omega)]
      by_cases c : q = 0
      · subst c
        rw [if_neg (by omega)]
        rfl
      · have hq1 : q - 1 < P.length := by omega
        have hg := rows_good hP hq1
        have e : w64 ((q : Int) - 1) = ((q - 1 : Nat) : Int) := by rw [w64_id (by omega) (by omega)]; omega
        rw [if_pos (by omega), e, inI_at z hq1, clone_eq z (by rw [hg.1]; omega) k (by omega)]
        unfold baseQ
        rw [if_neg c]
    rw [st, rooted_g18 z h1 h2 hP hl hv (by omega) (by omega) k (by omega), polyF]
    cases e : stepQ n P v q with
    | none => rfl
    | some r =>
      dsimp only
      rw [w64_up (by omega), rooted_g12 h1 h2 hP hl hv d (q + 1) k _ (by omega) (by rw [List.length_append]; simp only [List.length_singleton]; omega) (by omega)]
theorem rooted_g4 {n : Nat} (h1 : 1 ≤ n) (h2 : n ≤ 16) {vs : List (List Int)} (hv : ∀ v ∈ vs, FairZ n v) (hl : vs.length ≤ 20) {K0 : Bool → List Int → A} {K1 : List (List Int) → A} : ∀ (d i k : Nat) (P : List (List Int)), i + d = vs.length → GoodP n P → P.length ≤ i + 1 → d + 400 ≤ k →
    impl_field_rooted.g4 z k (n : Int) (cycD n : Int) (cycP n) vs (vs.length : Int) (i : Int) P K0 K1 = match polyAll n (vs.drop i) P with | some Q => K1 Q | none => K0 false []
  | d, i, 0, P, _, _, _, hk => absurd hk (by omega)
  | 0, i, k + 1, P, hi, hP, hp, hk => by
    rw [impl_field_rooted.g4, if_neg (by omega), List.drop_of_length_le (by omega)]
    rfl
  | d + 1, i, k + 1, P, hi, hP, hp, hk => by
    have hq : i < vs.length := by omega
    have hm := hv _ (show vs.getD i [] ∈ vs by rw [getD_rows hq]; exact List.getElem_mem _)
    rw [impl_field_rooted.g4, if_pos (by omega), inI_at z hq, w64_up (i := P.length) (by omega)]
    refine Eq.trans (rooted_g12 z h1 h2 hP (by omega) hm (P.length + 1) 0 k [] (by omega) (by simp) (by omega)) ?_
    rw [drop_rows hq, polyAll]
    cases e : polyF n P (vs.getD i []) (P.length + 1) 0 [] with
    | none => rfl
    | some Q =>
      obtain ⟨g1, g2⟩ := polyF_good hP _ 0 [] Q (by omega) (fun y hy => by cases hy) e
      have g2 : Q.length = 0 + (P.length + 1) := g2
      dsimp only
      rw [w64_up (by omega), rooted_g4 h1 h2 hv hl d (i + 1) k Q (by omega) g1 (by omega) (by omega)]
theorem rooted_g38 {n : Nat} {P : List (List Int)} (hP : GoodP n P) (hD : 1 ≤ cycD n) (hl : P.length ≤ 50) {K0 : List Int → A} : ∀ (d i k : Nat) (acc : List Int), i + d = P.length → acc.length = i → d + 1 ≤ k →
    impl_field_rooted.g38 z k (P.length : Int) (i : Int) acc P K0 = K0 (acc ++ (P.drop i).map fun y => rd y (0 : Nat))
  | d, i, 0, acc, _, _, hk => absurd hk (by omega)
  | 0, i, k + 1, acc, hi, ha, hk => by
    rw [impl_field_rooted.g38, if_neg (by omega), List.drop_of_length_le (by omega), List.map_nil, List.append_nil]
  | d + 1, i, k + 1, acc, hi, ha, hk => by
    have hq : i < P.length := by omega
    have hg := rows_good hP hq
    rw [impl_field_rooted.g38, if_pos (by omega), inI_at z hq, inI_0 z (by rw [hg.1]; omega), apI_ok z (by omega), w64_up (by omega), getD_rd, rooted_g38 hP hD hl d (i + 1) k _ (by omega) (by rw [List.length_append, ha]; rfl) (by omega), drop_rows hq, List.map_cons, List.append_assoc]
    rfl
theorem rooted_eq {n : Nat} (h1 : 1 ≤ n) (h2 : n ≤ 16) {vs : List (List Int)} (hv : ∀ v ∈ vs, FairZ n v) (hl : vs.length ≤ 20) (k : Nat) (hk : 500 ≤ k) (Φ : List Int → Bool → A) :
    impl_field_rooted z k (n : Int) (cycD n : Int) (cycP n) vs Φ = match polyAll n vs [oneT n] with | some Q => Φ (Q.map fun y => rd y (0 : Nat)) true | none => Φ [] false := by
  obtain ⟨k, rfl⟩ := le_ex (show 1 ≤ k by omega)
  have C := cyc_facts h1 h2
  have hP : GoodP n [oneT n] := fun y hy => by rw [List.mem_singleton.1 hy]; exact oneT_good n
  simp only [impl_field_rooted, step_succ]
  rw [whole_eq z h1 h2 _ k (by omega)]
  refine Eq.trans (rooted_g4 z h1 h2 hv hl vs.length 0 k [oneT n] (by omega) hP (by simp) (by omega)) ?_
  rw [List.drop_zero]
  cases e : polyAll n vs [oneT n] with
  | none => rfl
  | some Q =>
    obtain ⟨g1, g2⟩ := polyAll_good vs _ Q hP e
    have g2 : Q.length = 1 + vs.length := g2
    refine Eq.trans (rooted_g38 z g1 C.pos (by omega) Q.length 0 k [] (by omega) rfl (by omega)) ?_
    rfl
end
end Go.Proofs.Ytlohlekofckcgaa.F
/- Facts on polynomials with given roots, by the other side. -/
namespace Go.Proofs.Ytlohlekofckcgaa.F
open Go.RowKit Go.Proofs.Ytlohlekofckcgaa.R
set_option linter.unusedVariables false
set_option linter.unusedSimpArgs false
/-- The numbers from place i on; the first ones of equal ones only, if so told. -/
def sel (dd : Bool) (ys : List (List Int)) : Nat → Nat → List (List Int)
  | 0, _ => []
  | d + 1, i => bif dd && decide (ys.getD i [] ∈ ys.take i) then sel dd ys d (i + 1) else ys.getD i [] :: sel dd ys d (i + 1)
theorem sel_false {ys : List (List Int)} : ∀ d i, i + d = ys.length → sel false ys d i = ys.drop i
  | 0, i, h => by rw [List.drop_of_length_le (by omega)]; rfl
  | d + 1, i, h => by
    rw [drop_rows (by omega), ← sel_false d (i + 1) (by omega)]
    rfl
theorem ddp_sel {ys : List (List Int)} : ∀ d i (acc : List (List Int)), i + d = ys.length → (∀ y, y ∈ acc ↔ y ∈ ys.take i) → ddp (ys.drop i) acc = acc ++ sel true ys d i
  | 0, i, acc, h, _ => by rw [List.drop_of_length_le (by omega), sel, List.append_nil]; rfl
  | d + 1, i, acc, h, hm => by
    have hq : i < ys.length := by omega
    have ht : ys.take (i + 1) = ys.take i ++ [ys.getD i []] := by rw [getD_rows hq, List.take_succ_eq_append_getElem hq]
    rw [drop_rows hq, ddp, sel, Bool.true_and]
    by_cases c : ys.getD i [] ∈ ys.take i
    · rw [if_pos ((hm _).2 c), decide_eq_true c, cond_true, ddp_sel d (i + 1) acc (by omega) (fun y => by
        rw [hm y, ht, List.mem_append, List.mem_singleton]
        constructor
        · exact Or.inl
        · rintro (h | h)
          · exact h
          · rw [h]; exact c)]
    · rw [if_neg (fun h => c ((hm _).1 h)), decide_eq_false c, cond_false, ddp_sel d (i + 1) _ (by omega) (fun y => by
        rw [List.mem_append, hm y, ht, List.mem_append]), List.append_assoc]
      rfl
def poly2 (n : Int) (x : List Int) (dd : Bool) : List Int × Int := if isC n x = true then (match polyAll n.toNat (sel dd (imgL n.toNat x) (imgL n.toNat x).length 0) [oneT n.toNat] with
  | some Q => (Q.map fun y => rd y (0 : Nat), 0)
  | none => ([], 3)) else ([], 1)
section
variable {A : Type} (z : A)
theorem poly02_g26 {n : Nat} (h1 : 1 ≤ n) (h2 : n ≤ 16) {P ys : List (List Int)} (hP : GoodP n P) (hl : P.length ≤ 50) {i : Nat} (hi : i < ys.length) (hv : FairZ n (ys.getD i [])) {acc : List (List Int)} (ha : acc.length ≤ 100) {q : Nat} (hq : q ≤ P.length) (dd : Bool) (x : List Int) {K0 : Bool → List Int → A} {K1 : Bool → Int → Int → Int → List Int → List (Int × List Int) → List (Int × List Int) → List (Int × List Int) → A} (k : Nat) (hk : 900 ≤ k) :
    spec_l02Polynomial.g26 z k dd (i : Int) (q : Int) (n : Int) x (prs n ys) (prs n P) (prs n acc) (n : Int) (baseQ n P q) K0 K1 = match stepQ n P (ys.getD i []) q with | some r => K1 dd (i : Int) (q : Int) (n : Int) x (prs n ys) (prs n P) (prs n (acc ++ [r])) | none => K0 false [] := by
  obtain ⟨k, rfl⟩ := le_ex (show 1 ≤ k by omega)
  have C := cyc_facts h1 h2
  have := C.le12
  have hb := baseQ_good hP hq
  have lP := prs_len n P
  have lY := prs_len n ys
  have lA := prs_len n acc
  rw [spec_l02Polynomial.g26]
  unfold stepQ
  by_cases c : q < P.length
  · have hg := rows_good hP c
    obtain ⟨R, ⟨r1, r2⟩, r3⟩ := times01_eq z h1 h2 (n : Int) hv.1 hg.1 hv.2 (fun j hj => by have := hg.2 j hj; omega)
    rw [if_pos (by omega), if_pos c, inI_at z (by omega), inI_at z (by omega), prs_getD hi, prs_getD c, r3 k (by omega)]
    unfold mulO
    by_cases ho : okB n (ys.getD i []) (P.getD q []) = true
    · have hw : GoodZ n (tab (cycD n) (bil n (ys.getD i []) (P.getD q []))) := ⟨tab_length _ _, smallL_within.1 ho⟩
      rw [r2 ho, ho, Bool.not_true, cond_false, if_pos rfl]
      generalize tab (cycD n) (bil n (ys.getD i []) (P.getD q [])) = w at *
      dsimp only
      have e : addIn w (-1) 0 w.length 0 (baseQ n P q) = subL n (baseQ n P q) w := by
        rw [addIn_neg hw.2 w.length 0 (baseQ n P q) (by omega) (by rw [hw.1, hb.1]; omega) (.inr trivial) (fun j _ hj => hb.2 j (by rw [hb.1, ← hw.1]; exact hj)), hw.1, subIn_all hb.1]
      rw [plus_eq z (n : Int) (n : Int) (by rw [hb.1]; omega) (by rw [hw.1, hb.1]; omega) (-1) k (by rw [hw.1]; omega), e, fits_eq z (by rw [subL_len]; omega) _ k (by rw [subL_len]; omega)]
      cases smallL (subL n (baseQ n P q) w) with
      | false => rfl
      | true =>
        rw [Bool.not_true, cond_false, apI_ok z (by omega), if_pos rfl]
        exact congrArg (K1 dd (i : Int) (q : Int) (n : Int) x (prs n ys) (prs n P)) (prs_app n acc [subL n (baseQ n P q) w]).symm
    · rw [show okB n (ys.getD i []) (P.getD q []) = false by simpa using ho]
      rfl
  · rw [if_neg (by omega), if_neg c, fits_eq z (by rw [hb.1]; omega) _ k (by rw [hb.1]; omega)]
    cases smallL (baseQ n P q) with
    | false => rfl
    | true =>
      rw [Bool.not_true, cond_false, apI_ok z (by omega), if_pos rfl]
      exact congrArg (K1 dd (i : Int) (q : Int) (n : Int) x (prs n ys) (prs n P)) (prs_app n acc [baseQ n P q]).symm
theorem poly02_g26_1 {n : Nat} (h1 : 1 ≤ n) (h2 : n ≤ 16) {P ys : List (List Int)} (hP : GoodP n P) (hl : P.length ≤ 50) {i : Nat} (hi : i < ys.length) (hv : FairZ n (ys.getD i [])) {acc : List (List Int)} (ha : acc.length ≤ 100) {q : Nat} (hq : q ≤ P.length) (dd : Bool) (x : List Int) {K0 : Bool → List Int → A} {K1 : Bool → Int → Int → Int → List Int → List (Int × List Int) → List (Int × List Int) → List (Int × List Int) → A} (k : Nat) (hk : 900 ≤ k) :
    spec_l02Polynomial.g26_1 z k dd (i : Int) (q : Int) (n : Int) x (prs n ys) (prs n P) (prs n acc) (n : Int) (baseQ n P q) K0 K1 = match stepQ n P (ys.getD i []) q with | some r => K1 dd (i : Int) (q : Int) (n : Int) x (prs n ys) (prs n P) (prs n (acc ++ [r])) | none => K0 false [] := by
  obtain ⟨k, rfl⟩ := le_ex (show 1 ≤ k by omega)
  have C := cyc_facts h1 h2
  have := C.le12
  have hb := baseQ_good hP hq
  have lP := prs_len n P
  have lY := prs_len n ys
  have lA := prs_len n acc
  rw [spec_l02Polynomial.g26_1]
  unfold stepQ
  by_cases c : q < P.length
  · have hg := rows_good hP c
    obtain ⟨R, ⟨r1, r2⟩, r3⟩ := times01_eq z h1 h2 (n : Int) hv.1 hg.1 hv.2 (fun j hj => by have := hg.2 j hj; omega)
    rw [if_pos (by omega), if_pos c, inI_at z (by omega), inI_at z (by omega), prs_getD hi, prs_getD c, r3 k (by omega)]
    unfold mulO
    by_cases ho : okB n (ys.getD i []) (P.getD q []) = true
    · have hw : GoodZ n (tab (cycD n) (bil n (ys.getD i []) (P.getD q []))) := ⟨tab_length _ _, smallL_within.1 ho⟩
      rw [r2 ho, ho, Bool.not_true, cond_false, if_pos rfl]
      generalize tab (cycD n) (bil n (ys.getD i []) (P.getD q [])) = w at *
      dsimp only
      have e : addIn w (-1) 0 w.length 0 (baseQ n P q) = subL n (baseQ n P q) w := by
        rw [addIn_neg hw.2 w.length 0 (baseQ n P q) (by omega) (by rw [hw.1, hb.1]; omega) (.inr trivial) (fun j _ hj => hb.2 j (by rw [hb.1, ← hw.1]; exact hj)), hw.1, subIn_all hb.1]
      rw [plus_eq z (n : Int) (n : Int) (by rw [hb.1]; omega) (by rw [hw.1, hb.1]; omega) (-1) k (by rw [hw.1]; omega), e, fits_eq z (by rw [subL_len]; omega) _ k (by rw [subL_len]; omega)]
      cases smallL (subL n (baseQ n P q) w) with
      | false => rfl
      | true =>
        rw [Bool.not_true, cond_false, apI_ok z (by omega), if_pos rfl]
        exact congrArg (K1 dd (i : Int) (q : Int) (n : Int) x (prs n ys) (prs n P)) (prs_app n acc [subL n (baseQ n P q) w]).symm
    · rw [show okB n (ys.getD i []) (P.getD q []) = false by simpa using ho]
      rfl
  · rw [if_neg (by omega), if_neg c, fits_eq z (by rw [hb.1]; omega) _ k (by rw [hb.1]; omega)]
    cases smallL (baseQ n P q) with
    | false => rfl
    | true =>
      rw [Bool.not_true, cond_false, apI_ok z (by omega), if_pos rfl]
      exact congrArg (K1 dd (i : Int) (q : Int) (n : Int) x (prs n ys) (prs n P)) (prs_app n acc [baseQ n P q]).symm
theorem poly02_g21 {n : Nat} (h1 : 1 ≤ n) (h2 : n ≤ 16) {P ys : List (List Int)} (hP : GoodP n P) (hl : P.length ≤ 50) {i : Nat} (hi : i < ys.length) (hv : FairZ n (ys.getD i [])) (dd : Bool) (x : List Int) {K0 : Bool → List Int → A} {K1 : Bool → Int → Int → List Int → List (Int × List Int) → List (Int × List Int) → A} : ∀ (d q k : Nat) (acc : List (List Int)), q + d = P.length + 1 → acc.length ≤ q → d + 1000 ≤ k →
    spec_l02Polynomial.g21 z k dd (i : Int) (q : Int) (n : Int) x (prs n ys) (prs n P) (prs n acc) K0 K1 = match polyF n P (ys.getD i []) d q acc with | some Q => K1 dd (i : Int) (n : Int) x (prs n ys) (prs n Q) | none => K0 false []
  | d, q, 0, acc, _, _, hk => absurd hk (by omega)
  | 0, q, k + 1, acc, hq, ha, hk => by
    have lP := prs_len n P
    rw [spec_l02Polynomial.g21, if_neg (by omega)]
    rfl
  | d + 1, q, k + 1, acc, hq, ha, hk => by
    have lP := prs_len n P
    have ih := fun acc (ha : acc.length ≤ q + 1) => poly02_g21 h1 h2 hP hl hi hv dd x (K0 := K0) (K1 := K1) d (q + 1) k acc (by omega) ha (by omega)
    rw [spec_l02Polynomial.g21, if_pos (by omega), zero01_eq z h1 h2 k (by omega), polyF]
    by_cases c : q = 0
    · subst c
      have g := poly02_g26_1 z h1 h2 hP hl hi hv (acc := acc) (by omega) (q := 0) (by omega) dd x (K0 := K0) (K1 := fun v42 v43 v44 v45 v46 v47 v48 v49 => spec_l02Polynomial.g21 z k v42 v43 (w64 (v44 + 1)) v45 v46 v47 v48 v49 K0 K1) k (by omega)
      rw [if_neg (by omega)]
      refine Eq.trans g ?_
      cases e : stepQ n P (ys.getD i []) 0 with
      | none => rfl
      | some r =>
        dsimp only
        rw [w64_up (by omega), ih _ (by rw [List.length_append]; simp only [List.length_singleton]; omega)]
    · have hq1 : q - 1 < P.length := by omega
      have e0 : w64 ((q : Int) - 1) = ((q - 1 : Nat) : Int) := by rw [w64_id (by omega) (by omega)]; omega
      have g := poly02_g26 z h1 h2 hP hl hi hv (acc := acc) (by omega) (q := q) (by omega) dd x (K0 := K0) (K1 := fun v42 v43 v44 v45 v46 v47 v48 v49 => spec_l02Polynomial.g21 z k v42 v43 (w64 (v44 + 1)) v45 v46 v47 v48 v49 K0 K1) k (by omega)
      have eb : baseQ n P q = P.getD (q - 1) [] := if_neg c
      rw [eb] at g
      rw [if_pos (by omega), e0, inI_at z (by omega), prs_getD hq1]
      refine Eq.trans g ?_
      cases e : stepQ n P (ys.getD i []) q with
      | none => rfl
      | some r =>
        dsimp only
        rw [w64_up (by omega), ih _ (by rw [List.length_append]; simp only [List.length_singleton]; omega)]
theorem poly02_g12 {n : Nat} {ys : List (List Int)} (hl : ys.length ≤ 20) (hy : ∀ y ∈ ys, y.length ≤ 1000) {i : Nat} (hi : i < ys.length) {K0 : Bool → A} : ∀ (d j k : Nat) (fl : Bool), j + d = i → d + 1100 ≤ k →
    spec_l02Polynomial.g12 z k (i : Int) fl (j : Int) (prs n ys) K0 = K0 (fl || decide (ys.getD i [] ∈ (ys.take i).drop j))
  | d, j, 0, fl, _, hk => absurd hk (by omega)
  | 0, j, k + 1, fl, hj, hk => by
    rw [spec_l02Polynomial.g12, if_neg (by omega), List.drop_of_length_le (by rw [List.length_take]; omega), decide_eq_false (by simp), Bool.or_false]
  | d + 1, j, k + 1, fl, hj, hk => by
    have lY := prs_len n ys
    have hq : j < ys.length := by omega
    have hm := hy _ (show ys.getD j [] ∈ ys by rw [getD_rows hq]; exact List.getElem_mem _)
    have hd : (ys.take i).drop j = ys.getD j [] :: (ys.take i).drop (j + 1) := by
      rw [List.drop_eq_getElem_cons (by rw [List.length_take]; omega), List.getElem_take, getD_rows hq]
    rw [spec_l02Polynomial.g12, if_pos (by omega)]
    cases fl with
    | true =>
      rw [cond_true, w64_up (by omega), poly02_g12 hl hy hi d (j + 1) k true (by omega) (by omega)]
      rfl
    | false =>
      rw [cond_false, inI_at z (by omega), inI_at z (by omega), prs_getD hq, prs_getD hi, same_eq z (a := ys.getD j []) (by omega) _ _ k (by omega), w64_up (by omega), poly02_g12 hl hy hi d (j + 1) k _ (by omega) (by omega), hd, Bool.false_or]
      congr 1
      by_cases c : ys.getD j [] = ys.getD i []
      · rw [decide_eq_true ⟨rfl, c⟩, Bool.true_or, decide_eq_true (by rw [c]; exact List.mem_cons_self)]
      · rw [decide_eq_false (fun h => c h.2), Bool.false_or]
        by_cases e : ys.getD i [] ∈ (ys.take i).drop (j + 1)
        · rw [decide_eq_true e, decide_eq_true (List.mem_cons_of_mem _ e)]
        · rw [decide_eq_false e, decide_eq_false (fun h => by
            rcases List.mem_cons.1 h with h | h
            · exact c h.symm
            · exact e h)]
theorem poly02_g5 {n : Nat} (h1 : 1 ≤ n) (h2 : n ≤ 16) {ys : List (List Int)} (hy : ∀ y ∈ ys, FairZ n y) (hl : ys.length ≤ 20) (dd : Bool) (x : List Int) {K0 : Bool → List Int → A} {K1 : List (Int × List Int) → A} : ∀ (d i k : Nat) (P : List (List Int)), i + d = ys.length → GoodP n P → P.length ≤ i + 1 → d + 1300 ≤ k →
    spec_l02Polynomial.g5 z k dd (i : Int) (n : Int) x (prs n ys) (prs n P) K0 K1 = match polyAll n (sel dd ys d i) P with | some Q => K1 (prs n Q) | none => K0 false []
  | d, i, 0, P, _, _, _, hk => absurd hk (by omega)
  | 0, i, k + 1, P, hi, hP, hp, hk => by
    have lY := prs_len n ys
    rw [spec_l02Polynomial.g5, if_neg (by omega)]
    rfl
  | d + 1, i, k + 1, P, hi, hP, hp, hk => by
    have lY := prs_len n ys
    have lP := prs_len n P
    have hq : i < ys.length := by omega
    have C := cyc_facts h1 h2
    have := C.le12
    have hv := hy _ (show ys.getD i [] ∈ ys by rw [getD_rows hq]; exact List.getElem_mem _)
    have ih := fun Q hQ (hq2 : Q.length ≤ i + 2) => poly02_g5 h1 h2 hy hl dd x (K0 := K0) (K1 := K1) d (i + 1) k Q (by omega) hQ hq2 (by omega)
    have G : spec_l02Polynomial.g21 z k dd (i : Int) 0 (n : Int) x (prs n ys) (prs n P) [] K0 (fun v52 v53 v54 v55 v56 v57 => spec_l02Polynomial.g5 z k v52 (w64 (v53 + 1)) v54 v55 v56 v57 K0 K1) = match polyAll n (ys.getD i [] :: sel dd ys d (i + 1)) P with | some Q => K1 (prs n Q) | none => K0 false [] := by
      refine Eq.trans (poly02_g21 z h1 h2 hP (by omega) hq hv dd x (P.length + 1) 0 k [] (by omega) (by simp) (by omega)) ?_
      rw [polyAll]
      cases e : polyF n P (ys.getD i []) (P.length + 1) 0 [] with
      | none => rfl
      | some Q =>
        obtain ⟨g1, g2⟩ := polyF_good hP _ 0 [] Q (by omega) (fun y hy => by cases hy) e
        have g2 : Q.length = 0 + (P.length + 1) := g2
        dsimp only
        rw [w64_up (by omega), ih Q g1 (by omega)]
    rw [spec_l02Polynomial.g5, if_pos (by omega)]
    refine Eq.trans (poly02_g12 z hl (fun y h => by rw [(hy y h).1]; omega) hq i 0 k false (by omega) (by omega)) ?_
    rw [List.drop_zero, Bool.false_or, sel]
    by_cases c : ys.getD i [] ∈ ys.take i
    · rw [decide_eq_true c, cond_true]
      cases dd with
      | true => rw [cond_true, Bool.true_and, cond_true, w64_up (by omega), ih P hP (by omega)]
      | false =>
        rw [cond_false, Bool.false_and, cond_false]
        exact G
    · rw [decide_eq_false c, cond_false, Bool.and_false, cond_false]
      exact G
theorem poly02_g40 {n : Nat} {P : List (List Int)} (hP : GoodP n P) (hD : 1 ≤ cycD n) (hl : P.length ≤ 50) {K0 : List Int → A} : ∀ (d i k : Nat) (acc : List Int), i + d = P.length → acc.length = i → d + 1 ≤ k →
    spec_l02Polynomial.g40 z k (i : Int) (prs n P) acc K0 = K0 (acc ++ (P.drop i).map fun y => rd y (0 : Nat))
  | d, i, 0, acc, _, _, hk => absurd hk (by omega)
  | 0, i, k + 1, acc, hi, ha, hk => by
    have lP := prs_len n P
    rw [spec_l02Polynomial.g40, if_neg (by omega), List.drop_of_length_le (by omega), List.map_nil, List.append_nil]
  | d + 1, i, k + 1, acc, hi, ha, hk => by
    have lP := prs_len n P
    have hq : i < P.length := by omega
    have hg := rows_good hP hq
    rw [spec_l02Polynomial.g40, if_pos (by omega), inI_at z (by omega), prs_getD hq, inI_0 z (by rw [hg.1]; omega), apI_ok z (by omega), w64_up (by omega), getD_rd, poly02_g40 hP hD hl d (i + 1) k _ (by omega) (by rw [List.length_append, ha]; rfl) (by omega), drop_rows hq, List.map_cons, List.append_assoc]
    rfl
theorem sel_mem {dd : Bool} {ys : List (List Int)} {y : List Int} : ∀ d i, i + d = ys.length → y ∈ sel dd ys d i → y ∈ ys
  | 0, i, _, h => by cases h
  | d + 1, i, hi, h => by
    unfold sel at h
    cases c : dd && decide (ys.getD i [] ∈ ys.take i) with
    | true => rw [c] at h; exact sel_mem d (i + 1) (by omega) h
    | false =>
      rw [c] at h
      rcases List.mem_cons.1 h with h | h
      · rw [h, getD_rows (show i < ys.length by omega)]; exact List.getElem_mem _
      · exact sel_mem d (i + 1) (by omega) h
theorem sel_len (dd : Bool) (ys : List (List Int)) : ∀ d i, (sel dd ys d i).length ≤ d
  | 0, i => Nat.le_refl _
  | d + 1, i => by
    have := sel_len dd ys d (i + 1)
    unfold sel
    cases dd && decide (ys.getD i [] ∈ ys.take i)
    · rw [cond_false, List.length_cons]; omega
    · rw [cond_true]; omega
theorem polynomial02_eq {n : Nat} (h1 : 1 ≤ n) (h2 : n ≤ 16) {x : List Int} (hx : GoodZ n x) (dd : Bool) (k : Nat) (hk : 1500 ≤ k) (Φ : List Int → Bool → A) :
    spec_l02Polynomial z k (n : Int) x dd Φ = match polyAll n (sel dd (imgL n x) (imgL n x).length 0) [oneT n] with | some Q => Φ (Q.map fun y => rd y (0 : Nat)) true | none => Φ [] false := by
  obtain ⟨k, rfl⟩ := le_ex (show 1 ≤ k by omega)
  have C := cyc_facts h1 h2
  have := C.le12
  have hl := imgL_len h1 h2 x
  have hP : GoodP n [oneT n] := fun y hy => by rw [List.mem_singleton.1 hy]; exact oneT_good n
  simp only [spec_l02Polynomial, step_succ]
  rw [images02_eq z h1 h2 (by rw [hx.1]; omega) k (by omega), one01_eq z h1 h2 k (by omega)]
  refine Eq.trans (poly02_g5 z h1 h2 (imgL_fair h1 h2 hx) (by omega) dd x (imgL n x).length 0 k [oneT n] (by omega) hP (by simp) (by omega)) ?_
  cases e : polyAll n (sel dd (imgL n x) (imgL n x).length 0) [oneT n] with
  | none => rfl
  | some Q =>
    obtain ⟨g1, g2⟩ := polyAll_good _ _ Q hP e
    have g2 : Q.length = 1 + (sel dd (imgL n x) (imgL n x).length 0).length := g2
    have := sel_len dd (imgL n x) (imgL n x).length 0
    refine Eq.trans (poly02_g40 z g1 C.pos (by omega) Q.length 0 k [] (by omega) rfl (by omega)) ?_
    rfl
theorem polynomial_eq (n : Int) {x : List Int} (hx : x.length ≤ 1100000) (dd : Bool) (k : Nat) (hk : x.length + 2000 ≤ k) (Φ : List Int → Int → A) : impl_polynomial z k n x dd Φ = Φ (poly2 n x dd).1 (poly2 n x dd).2 := by
  obtain ⟨k, rfl⟩ := le_ex (show 2 ≤ k by omega)
  simp only [impl_polynomial, step_succ]
  rw [isCyclo_eq z n hx _ (by omega)]
  unfold poly2
  cases h : isC n x with
  | false => rfl
  | true =>
    obtain ⟨m, rfl, h1, h2, h3, h4, h5⟩ := isC_x h
    have hl := imgL_len h1 h2 x
    have hf := imgL_fair h1 h2 h5
    have C := cyc_facts h1 h2
    have := C.le12
    have hs : sel true (imgL m x) (imgL m x).length 0 = ddp (imgL m x) [] := by
      have := ddp_sel (ys := imgL m x) (imgL m x).length 0 [] (by omega) (fun y => by simp)
      rw [List.drop_zero, List.nil_append] at this
      exact this.symm
    have hs0 : sel false (imgL m x) (imgL m x).length 0 = imgL m x := by
      rw [sel_false _ 0 (by omega), List.drop_zero]
    have G : ∀ vs : List (List Int), (∀ v ∈ vs, FairZ m v) → vs.length ≤ 20 → impl_polynomial.g6 z (k + 1) (m : Int) (cycD m : Int) (cycP m) vs (fun a b => Φ b a) = Φ (match polyAll m vs [oneT m] with | some Q => (Q.map fun y => rd y (0 : Nat), (0 : Int)) | none => ([], 3)).1 (match polyAll m vs [oneT m] with | some Q => (Q.map fun y => rd y (0 : Nat), (0 : Int)) | none => ([], 3)).2 := fun vs g1 g2 => by
      rw [impl_polynomial.g6, rooted_eq z h1 h2 g1 g2 k (by omega)]
      cases polyAll m vs [oneT m] <;> rfl
    rw [Bool.not_true, cond_false, if_pos rfl, field_eq z h1 h2 _ (by omega), images_eq z h1 h2 (by omega) _ (by omega), Int.toNat_natCast]
    cases dd with
    | true =>
      rw [cond_true, different_eq z (by omega) (fun y hy => by rw [(hf y hy).1]; omega) _ (by omega), ← hs]
      exact G _ (fun v hv => hf v (sel_mem _ 0 (by omega) hv)) (by have := sel_len true (imgL m x) (imgL m x).length 0; omega)
    | false =>
      rw [cond_false, hs0]
      exact G _ hf (by omega)
theorem minimal_eq (n : Int) {x : List Int} (hx : x.length ≤ 1100000) (k : Nat) (hk : x.length + 2100 ≤ k) (Φ : List Int → Int → A) : impl_MinimalOf z k n x Φ = Φ (poly2 n x true).1 (poly2 n x true).2 := by
  obtain ⟨k, rfl⟩ := le_ex (show 1 ≤ k by omega)
  simp only [impl_MinimalOf, step_succ]
  exact polynomial_eq z n hx true k (by omega) Φ
theorem specMinimal_eq (n : Int) {x : List Int} (hx : x.length ≤ 1100000) (k : Nat) (hk : x.length + 2100 ≤ k) (Φ : List Int → Int → A) : spec_MinimalOf z k n x Φ = Φ (poly2 n x true).1 (poly2 n x true).2 := by
  obtain ⟨k, rfl⟩ := le_ex (show 1 ≤ k by omega)
  simp only [spec_MinimalOf, step_succ]
  rw [is01_eq z n hx k (by omega)]
  unfold poly2
  cases h : isC n x with
  | false => rfl
  | true =>
    obtain ⟨m, rfl, h1, h2, h3, h4, h5⟩ := isC_x h
    rw [Bool.not_true, cond_false, if_pos rfl, polynomial02_eq z h1 h2 h5 true k (by omega), Int.toNat_natCast]
    cases polyAll m (sel true (imgL m x) (imgL m x).length 0) [oneT m] <;> rfl
end
end Go.Proofs.Ytlohlekofckcgaa.F
/- Facts on degrees and on finding images, by both sides; what is drawn for the law of minimal polynomials. -/
namespace Go.Proofs.Ytlohlekofckcgaa.F
open Go.RowKit Go.Proofs.Ytlohlekofckcgaa.R
set_option linter.unusedVariables false
set_option linter.unusedSimpArgs false
def deg2 (n : Int) (x : List Int) : Int × Int := if isC n x = true then (((sel true (imgL n.toNat x) (imgL n.toNat x).length 0).length : Nat), 0) else (0, 1)
def fnd (m : Nat) (x y : List Int) : List Int → Int × Int
  | [] => (0, 4)
  | a :: t => if imT m x a = y then (a, 0) else fnd m x y t
def find2 (m : Int) (x : List Int) (n : Int) (y : List Int) : Int × Int := if codeC m x n y ≠ 0 then (0, codeC m x n y) else fnd m.toNat x y (unitsL m)
section
variable {A : Type} (z : A)
end
end Go.Proofs.Ytlohlekofckcgaa.F
/- What is drawn for the laws of norms and of minimal polynomials. -/
namespace Go.Proofs.Ytlohlekofckcgaa.F
open Go.RowKit Go.Proofs.Ytlohlekofckcgaa.R
set_option linter.unusedVariables false
set_option linter.unusedSimpArgs false
section
variable {A : Type} (z : A)
theorem cyc17_tab : ∀ (j : Nat) (A : Type) (z : A) (Φ : List Int → A), spec_l01Cyclotomic z (j + 300) 17 Φ = Φ (List.replicate 17 (1 : Int)) := fun _ _ _ _ => by kernel_rfl
theorem zero17_tab : ∀ (j : Nat) (A : Type) (z : A) (Φ : Int → List Int → A), spec_l01Zero z (j + 100) 17 Φ = Φ 17 (List.replicate 16 (0 : Int)) := fun _ _ _ _ => by kernel_rfl
theorem reduce17 {L : List Int} (hl : L.length ≤ 1000) : ∃ R : List Int, R.length = 16 ∧ ∀ k, L.length + 400 ≤ k → ∀ Φ : Int → List Int → A, spec_l01Reduce z k 17 L Φ = Φ 17 R := by
  refine ⟨tab 16 fun j => rd (redOut (List.replicate 17 (1 : Int)) 16 L.length L) j, tab_length _ _, fun k hk Φ => ?_⟩
  obtain ⟨k, rfl⟩ := le_ex (show 301 ≤ k by omega)
  have hF : (List.replicate 17 (1 : Int)).length = 16 + 1 := by rw [List.length_replicate]
  rw [spec_l01Reduce, show k + 301 = (k + 300) + 1 from rfl, step_succ, cyc17_tab, own_eq z (by omega) _ (by omega), hF]
  have e1 : w64 (((16 + 1 : Nat) : Int) - 1) = ((16 : Nat) : Int) := by rw [w64_id (by omega) (by omega)]; omega
  have e2 : w64 ((L.length : Int) - 1) = (L.length : Int) - 1 := w64_id (by omega) (by omega)
  rw [e1, e2]
  refine Eq.trans (red_g5 z (F := List.replicate 17 (1 : Int)) (D := 16) (by omega) hF L.length (k + 300) L (Nat.le_refl _) hl (by omega)) ?_
  rw [show k + 300 = (k + 200) + 100 from rfl, zero17_tab, tab_zero, show (tab 16 fun _ => (0 : Int)) = tab 16 fun j => if j < 0 then rd (redOut (List.replicate 17 (1 : Int)) 16 L.length L) j else 0 from tab_congr (fun j hj => (if_neg (by omega)).symm)]
  exact red_g18 z (D := 16) (by omega) (by rw [redOut_length]; omega) 16 0 _ (by omega) (by omega)
theorem gal17_g {x : List Int} (hx : x.length ≤ 100) {a : Int} (ha : -1000 ≤ a ∧ a ≤ 1000) {K0 : List Int → A} : ∀ (d i k : Nat) (G : List Int), i + d = x.length → G.length = 17 → d + 1 ≤ k →
    spec_l01Galois.g5 z k a ((17 : Nat) : Int) (i : Int) x G K0 = K0 (galIn 17 x a d i G)
  | d, i, 0, G, _, _, hk => absurd hk (by omega)
  | 0, i, k + 1, G, hi, hG, hk => by
    rw [spec_l01Galois.g5, if_neg (by omega)]
    rfl
  | d + 1, i, k + 1, G, hi, hG, hk => by
    have hm := mul_bd (i := i) (by omega) ha
    obtain ⟨q0, q1⟩ := mod_nat ((i : Int) * a) (n := 17) (by omega)
    rw [spec_l01Galois.g5, if_pos (by omega), gd_ok z (by omega)]
    dsimp only
    rw [gd_ok z (by omega), round_eq hm (by omega) (by omega), q0, inI_at z (by omega), inI_at z (by omega), inI_at z (by omega), w64_up (by omega), gal17_g hx ha d (i + 1) k _ (by omega) (by rw [List.length_set]; exact hG) (by omega)]
    rfl
theorem galIn_len (n : Nat) (x : List Int) (a : Int) : ∀ (d i : Nat) (L : List Int), (galIn n x a d i L).length = L.length
  | 0, i, L => rfl
  | d + 1, i, L => by unfold galIn; rw [galIn_len n x a d, List.length_set]
theorem galois17 {x : List Int} (hx : x.length ≤ 100) {a : Int} (ha : -1000 ≤ a ∧ a ≤ 1000) : ∃ R : List Int, R.length = 16 ∧ ∀ k, 500 ≤ k → ∀ Φ : Int → List Int → A, spec_l01Galois z k ((17 : Nat) : Int) x a Φ = Φ 17 R := by
  have hl : (galIn 17 x a x.length 0 (List.replicate 17 0)).length = 17 := by rw [galIn_len, List.length_replicate]
  obtain ⟨R, r1, r2⟩ := reduce17 z (L := galIn 17 x a x.length 0 (List.replicate 17 0)) (by omega)
  refine ⟨R, r1, fun k hk Φ => ?_⟩
  obtain ⟨k, rfl⟩ := le_ex (show 1 ≤ k by omega)
  simp only [spec_l01Galois, step_succ]
  rw [mkI_at z (by omega)]
  refine Eq.trans (gal17_g z hx ha x.length 0 k _ (by omega) (by simp) (by omega)) ?_
  exact r2 k (by omega) Φ
theorem images17_g4 {x : List Int} (hx : x.length ≤ 100) : ∀ (d i : Nat) (ys : List (Int × List Int)) (U : List Int), i + d = 18 → ys.length ≤ i → U.length ≤ i →
    ∃ ys' U', ∀ k, d + 550 ≤ k → ∀ K0 : List (Int × List Int) → List Int → A, spec_l02Images.g4 z k (i : Int) ((17 : Nat) : Int) x ys U K0 = K0 ys' U'
  | 0, i, ys, U, hi, hy, hU => ⟨ys, U, fun k hk K0 => by
    obtain ⟨k, rfl⟩ := le_ex (show 1 ≤ k by omega)
    rw [spec_l02Images.g4, if_neg (by omega)]⟩
  | d + 1, i, ys, U, hi, hy, hU => by
    obtain ⟨R, r1, r2⟩ := galois17 z hx (a := (i : Int)) (by omega)
    have hg : ((Int.gcd (i : Int) ((17 : Nat) : Int) : Nat) : Int) = ((Nat.gcd i 17 : Nat) : Int) := rfl
    by_cases c : Nat.gcd i 17 = 1
    · obtain ⟨ys', U', e⟩ := images17_g4 hx d (i + 1) (ys ++ [(17, R)]) (U ++ [(i : Int)]) (by omega) (by rw [List.length_append]; simp only [List.length_singleton]; omega) (by rw [List.length_append]; simp only [List.length_singleton]; omega)
      refine ⟨ys', U', fun k hk K0 => ?_⟩
      obtain ⟨k, rfl⟩ := le_ex (show 1 ≤ k by omega)
      rw [spec_l02Images.g4, if_pos (by omega), sgcd_eq z (by omega) (by omega) k (by omega), hg, if_pos (by omega), r2 k (by omega), apI_ok z (by omega), apI_ok z (by omega), w64_up (by omega), e k (by omega)]
    · obtain ⟨ys', U', e⟩ := images17_g4 hx d (i + 1) ys U (by omega) (by omega) (by omega)
      refine ⟨ys', U', fun k hk K0 => ?_⟩
      obtain ⟨k, rfl⟩ := le_ex (show 1 ≤ k by omega)
      rw [spec_l02Images.g4, if_pos (by omega), sgcd_eq z (by omega) (by omega) k (by omega), hg, if_neg (by omega), w64_up (by omega), e k (by omega)]
theorem images_any {n : Int} (hn : n ≤ 17) {x : List Int} (hx : x.length ≤ 100) : ∃ ys U, (isC n x = true → ys = prs n.toNat (imgL n.toNat x)) ∧ ∀ k, 700 ≤ k → ∀ Φ : List (Int × List Int) → List Int → A, spec_l02Images z k n x Φ = Φ ys U := by
  by_cases c : 1 ≤ n ∧ n ≤ 16
  · obtain ⟨n, rfl⟩ : ∃ j : Nat, n = j := ⟨n.toNat, by omega⟩
    rw [Int.toNat_natCast]
    exact ⟨_, _, fun _ => rfl, fun k hk Φ => images02_eq z (by omega) (by omega) hx k (by omega) Φ⟩
  · by_cases c17 : n = 17
    · subst c17
      obtain ⟨ys, U, e⟩ := images17_g4 z hx 17 1 [] [] (by omega) (by simp) (by simp)
      refine ⟨ys, U, fun h => ?_, fun k hk Φ => ?_⟩
      · obtain ⟨m, e1, _, e2, _⟩ := isC_x h
        omega
      · obtain ⟨k, rfl⟩ := le_ex (show 1 ≤ k by omega)
        simp only [spec_l02Images, step_succ]
        exact e k (by omega) Φ
    · refine ⟨[], [], fun h => ?_, fun k hk Φ => ?_⟩
      · obtain ⟨m, e1, e3, e2, _⟩ := isC_x h
        omega
      · obtain ⟨k, rfl⟩ := le_ex (show 2 ≤ k by omega)
        simp only [spec_l02Images, step_succ]
        rw [spec_l02Images.g4, if_neg (by omega)]
/-! ### Drawn, with what is known of the order -/
end
end Go.Proofs.Ytlohlekofckcgaa.F
/- Products of T - v, exact: the order of the roots is nothing. Plain. -/
namespace Go.Proofs.Ytlohlekofckcgaa.F
open Go.RowKit Go.Proofs.Ytlohlekofckcgaa.R
set_option linter.unusedVariables false
set_option linter.unusedSimpArgs false
def zeroT (n : Nat) : List Int := List.replicate (cycD n) 0
def coefP (n : Nat) (P : List (List Int)) (q : Nat) : List Int := if q < P.length then P.getD q [] else zeroT n
def shf (n : Nat) (F : Nat → List Int) : Nat → List Int
  | 0 => zeroT n
  | q + 1 => F q
def stepE (n : Nat) (v : List Int) (F : Nat → List Int) (q : Nat) : List Int := subL n (shf n F q) (mulT n v (F q))
def allE (n : Nat) : List (List Int) → (Nat → List Int) → Nat → List Int
  | [], F => F
  | v :: t, F => allE n t (stepE n v F)
theorem zeroT_rd (n m : Nat) : rd (zeroT n) m = 0 := by
  unfold zeroT
  by_cases h : m < (List.replicate (cycD n) (0 : Int)).length
  · rw [rd_nat _ _ h, List.getElem_replicate]
  · exact rd_out _ _ (by omega)
theorem mulT_zero (n : Nat) (v : List Int) : mulT n v (zeroT n) = zeroT n := by
  unfold mulT zeroT
  rw [tab_zero]
  refine tab_congr fun m hm => ?_
  unfold bil
  rw [sumF_congr _ 0 (g := fun _ => (0 : Int)) (fun i _ _ => by
    rw [sumF_congr _ 0 (g := fun _ => (0 : Int)) (fun k _ hk => by
      rw [tab_length] at hk
      rw [tab_rd _ _ _ (by omega), Int.zero_mul]), sumF_zero, Int.mul_zero]), sumF_zero]
theorem subL_zero {n : Nat} {b : List Int} (hb : b.length = cycD n) : subL n b (zeroT n) = b :=
  (tab_ext hb fun m hm => by rw [zeroT_rd, Int.sub_zero]).symm
theorem mulT_sub {n : Nat} (b : List Int) {u w : List Int} (hu : u.length = cycD n) (hw : w.length = cycD n) {m : Nat} (hm : m < cycD n) : rd (mulT n b (subL n u w)) m = rd (mulT n b u) m - rd (mulT n b w) m := by
  unfold mulT
  rw [tab_rd _ _ _ hm, tab_rd _ _ _ hm, tab_rd _ _ _ hm]
  unfold bil
  rw [subL_len, hu, hw]
  have e : ∀ a b : Int, a - b = a + (-1) * b := fun a b => by omega
  rw [e, ← sumF_left, ← sumF_add]
  refine sumF_congr _ 0 fun i _ _ => ?_
  have e2 : sumF 0 (cycD n) (fun k => rd (subL n u w) k * cycW n m (i + k)) = sumF 0 (cycD n) (fun k => rd u k * cycW n m (i + k)) + (-1) * sumF 0 (cycD n) (fun k => rd w k * cycW n m (i + k)) := by
    rw [← sumF_left, ← sumF_add]
    refine sumF_congr _ 0 fun k _ hk => ?_
    rw [subL_rd _ _ (by omega), Int.sub_mul, e]
  rw [e2, Int.mul_add, Int.mul_left_comm]
theorem shf_len {n : Nat} {F : Nat → List Int} (hF : ∀ q, (F q).length = cycD n) : ∀ q, (shf n F q).length = cycD n
  | 0 => List.length_replicate
  | q + 1 => hF q
theorem stepE_len (n : Nat) (v : List Int) (F : Nat → List Int) (q : Nat) : (stepE n v F q).length = cycD n := subL_len _ _ _
theorem stepE_comm {n : Nat} (h1 : 1 ≤ n) (h2 : n ≤ 16) (a b : List Int) {F : Nat → List Int} (hF : ∀ q, (F q).length = cycD n) : stepE n b (stepE n a F) = stepE n a (stepE n b F) := by
  have hs := shf_len hF
  have key : ∀ (a b : List Int) (q m : Nat), m < cycD n → rd (stepE n b (stepE n a F) q) m = (match q with | 0 => rd (mulT n b (mulT n a (F 0))) m | q + 1 => rd (shf n F q) m - rd (mulT n a (F q)) m - rd (mulT n b (F q)) m + rd (mulT n b (mulT n a (F (q + 1)))) m) := fun a b q m hm => by
    unfold stepE
    rw [subL_rd _ _ hm, mulT_sub b (hs q) (mulT_len n a (F q)) hm]
    cases q with
    | zero =>
      show rd (zeroT n) m - (rd (mulT n b (zeroT n)) m - rd (mulT n b (mulT n a (F 0))) m) = _
      rw [mulT_zero, zeroT_rd]
      dsimp only
      omega
    | succ q =>
      show rd (subL n (shf n F q) (mulT n a (F q))) m - (rd (mulT n b (F q)) m - rd (mulT n b (mulT n a (F (q + 1)))) m) = _
      rw [subL_rd _ _ hm]
      dsimp only
      omega
  funext q
  refine list_ext_rd (by rw [stepE_len, stepE_len]) fun m hm => ?_
  rw [stepE_len] at hm
  have e : ∀ q, mulT n b (mulT n a (F q)) = mulT n a (mulT n b (F q)) := fun q => by
    rw [← mulT_assoc h1 h2, mulT_comm n b a, mulT_assoc h1 h2]
  rw [key a b q m hm, key b a q m hm]
  cases q with
  | zero => dsimp only; rw [e]
  | succ q => dsimp only; rw [e]; omega
theorem allE_perm {n : Nat} (h1 : 1 ≤ n) (h2 : n ≤ 16) {vs ws : List (List Int)} (h : vs.Perm ws) : ∀ F : Nat → List Int, (∀ q, (F q).length = cycD n) → allE n vs F = allE n ws F := by
  induction h with
  | nil => intro F _; rfl
  | cons a _ ih => intro F hF; exact ih _ (stepE_len n a F)
  | swap a b l =>
    intro F hF
    show allE n l (stepE n a (stepE n b F)) = allE n l (stepE n b (stepE n a F))
    rw [stepE_comm h1 h2 b a hF]
  | trans _ _ ih1 ih2 => intro F hF; rw [ih1 F hF, ih2 F hF]
theorem coefP_len {n : Nat} {P : List (List Int)} (hP : GoodP n P) (q : Nat) : (coefP n P q).length = cycD n := by
  unfold coefP
  split
  · exact (rows_good hP (by assumption)).1
  · exact List.length_replicate
theorem baseQ_shf {n : Nat} {P : List (List Int)} {q : Nat} (hq : q ≤ P.length) : baseQ n P q = shf n (coefP n P) q := by
  unfold baseQ
  cases q with
  | zero => rfl
  | succ q =>
    rw [if_neg (by omega)]
    show P.getD q [] = coefP n P q
    unfold coefP
    rw [if_pos (by omega)]
theorem stepQ_E {n : Nat} {P : List (List Int)} (hP : GoodP n P) {v r : List Int} {q : Nat} (hq : q ≤ P.length) (h : stepQ n P v q = some r) : r = stepE n v (coefP n P) q := by
  unfold stepE
  rw [← baseQ_shf hq]
  unfold stepQ at h
  unfold coefP
  by_cases c : q < P.length
  · rw [if_pos c] at h ⊢
    unfold mulO at h
    by_cases ho : okB n v (P.getD q []) = true
    · rw [if_pos ho] at h
      dsimp only at h
      split at h
      · cases h; rfl
      · cases h
    · rw [if_neg ho] at h; cases h
  · rw [if_neg c] at h ⊢
    rw [mulT_zero, subL_zero (baseQ_good hP hq).1]
    split at h
    · cases h; rfl
    · cases h
theorem polyF_spec {n : Nat} {P : List (List Int)} {v : List Int} : ∀ (d q : Nat) (acc Q : List (List Int)), polyF n P v d q acc = some Q → ∃ rest, Q = acc ++ rest ∧ rest.length = d ∧ ∀ j, j < d → stepQ n P v (q + j) = some (rest.getD j [])
  | 0, q, acc, Q, h => by cases h; exact ⟨[], by simp, rfl, fun j hj => by omega⟩
  | d + 1, q, acc, Q, h => by
    unfold polyF at h
    cases e : stepQ n P v q with
    | none => rw [e] at h; cases h
    | some r =>
      rw [e] at h
      obtain ⟨rest, g1, g2, g3⟩ := polyF_spec d (q + 1) (acc ++ [r]) Q h
      refine ⟨r :: rest, by rw [g1, List.append_assoc]; rfl, by rw [List.length_cons, g2], fun j hj => ?_⟩
      cases j with
      | zero => exact e
      | succ j =>
        have := g3 j (by omega)
        rw [show q + (j + 1) = q + 1 + j by omega, this]
        rfl
theorem polyF_E {n : Nat} {P Q : List (List Int)} (hP : GoodP n P) {v : List Int} (h : polyF n P v (P.length + 1) 0 [] = some Q) : coefP n Q = stepE n v (coefP n P) ∧ Q.length = P.length + 1 ∧ ∀ j, j ≤ P.length → stepQ n P v j = some (Q.getD j []) := by
  obtain ⟨rest, g1, g2, g3⟩ := polyF_spec _ 0 [] Q h
  rw [List.nil_append] at g1
  subst g1
  have g4 : ∀ j, j ≤ P.length → stepQ n P v j = some (Q.getD j []) := fun j hj => by
    have := g3 j (by omega)
    rwa [Nat.zero_add] at this
  refine ⟨?_, g2, g4⟩
  funext q
  by_cases c : q < Q.length
  · have := stepQ_E hP (by omega) (g4 q (by omega))
    rw [← this]
    unfold coefP
    rw [if_pos c]
  · have e : coefP n Q q = zeroT n := by unfold coefP; rw [if_neg c]
    have e2 : coefP n P q = zeroT n := by unfold coefP; rw [if_neg (by omega)]
    have e3 : shf n (coefP n P) q = zeroT n := by
      cases q with
      | zero => rfl
      | succ q =>
        show coefP n P q = zeroT n
        unfold coefP
        rw [if_neg (by omega)]
    unfold stepE
    rw [e, e2, e3, mulT_zero, subL_zero (b := zeroT n) List.length_replicate]
theorem polyAll_E {n : Nat} : ∀ (vs P Q : List (List Int)), GoodP n P → polyAll n vs P = some Q → coefP n Q = allE n vs (coefP n P) ∧ Q.length = P.length + vs.length
  | [], P, Q, hP, h => by cases h; exact ⟨rfl, rfl⟩
  | v :: t, P, Q, hP, h => by
    unfold polyAll at h
    cases e : polyF n P v (P.length + 1) 0 [] with
    | none => rw [e] at h; cases h
    | some R =>
      rw [e] at h
      obtain ⟨a1, a2, _⟩ := polyF_E hP e
      obtain ⟨g1, _⟩ := polyF_good hP _ 0 [] R (by omega) (fun y hy => by cases hy) e
      obtain ⟨b1, b2⟩ := polyAll_E t R Q g1 h
      rw [a1] at b1
      refine ⟨b1, ?_⟩
      rw [b2, a2, List.length_cons]
      omega
theorem coefP_inj {n : Nat} {P Q : List (List Int)} (hl : P.length = Q.length) (h : coefP n P = coefP n Q) : P = Q := by
  refine List.ext_getElem hl fun i h1 h2 => ?_
  have := congrFun h i
  unfold coefP at this
  rw [if_pos h1, if_pos h2, getD_rows h1, getD_rows h2] at this
  exact this
/-- The order of the roots is nothing. -/
theorem polyAll_perm {n : Nat} (h1 : 1 ≤ n) (h2 : n ≤ 16) {vs ws : List (List Int)} (h : vs.Perm ws) {P Q R : List (List Int)} (hP : GoodP n P) (hQ : polyAll n vs P = some Q) (hR : polyAll n ws P = some R) : Q = R := by
  obtain ⟨a1, a2⟩ := polyAll_E vs P Q hP hQ
  obtain ⟨b1, b2⟩ := polyAll_E ws P R hP hR
  refine coefP_inj (n := n) (by rw [a2, b2, h.length_eq]) ?_
  rw [a1, b1, allE_perm h1 h2 h _ (coefP_len hP)]
/-- Every root is small. -/
theorem roots_good {n : Nat} (h1 : 1 ≤ n) (h2 : n ≤ 16) : ∀ (vs P Q : List (List Int)), GoodP n P → 1 ≤ P.length → P.getD (P.length - 1) [] = oneT n → (∀ v ∈ vs, v.length = cycD n) → polyAll n vs P = some Q → (∀ v ∈ vs, GoodZ n v) ∧ Q.getD (Q.length - 1) [] = oneT n
  | [], P, Q, hP, hl, hd, hv, h => by cases h; exact ⟨(fun v hv => by cases hv), hd⟩
  | v :: t, P, Q, hP, hl, hd, hv, h => by
    unfold polyAll at h
    cases e : polyF n P v (P.length + 1) 0 [] with
    | none => rw [e] at h; cases h
    | some R =>
      rw [e] at h
      obtain ⟨a1, a2, a3⟩ := polyF_E hP e
      obtain ⟨g1, _⟩ := polyF_good hP _ 0 [] R (by omega) (fun y hy => by cases hy) e
      have s1 := a3 (P.length - 1) (by omega)
      have s2 := a3 P.length (Nat.le_refl _)
      have hvl := hv v List.mem_cons_self
      have hg : GoodZ n v := by
        unfold stepQ at s1
        rw [if_pos (by omega), hd] at s1
        cases em : mulO n v (oneT n) with
        | none => rw [em] at s1; cases s1
        | some w =>
          have gw := mulO_good em
          unfold mulO at em
          split at em
          · cases em
            have : tab (cycD n) (bil n v (oneT n)) = v := mulT_one (cyc_facts h1 h2) hvl
            rwa [this] at gw
          · cases em
      have hd2 : R.getD (R.length - 1) [] = oneT n := by
        rw [a2, Nat.add_sub_cancel]
        unfold stepQ at s2
        rw [if_neg (by omega)] at s2
        split at s2
        · have s3 := Option.some.inj s2
          rw [← s3]
          unfold baseQ
          rw [if_neg (by omega), hd]
        · cases s2
      obtain ⟨r1, r2⟩ := roots_good h1 h2 t R Q g1 (by omega) hd2 (fun w hw => hv w (List.mem_cons_of_mem _ hw)) h
      refine ⟨fun w hw => ?_, r2⟩
      rcases List.mem_cons.1 hw with hw | hw
      · rw [hw]; exact hg
      · exact r1 w hw
theorem mem_ddp {y : List Int} : ∀ (ys acc : List (List Int)), y ∈ ddp ys acc ↔ y ∈ ys ∨ y ∈ acc
  | [], acc => by simp [ddp]
  | a :: t, acc => by
    unfold ddp
    by_cases c : a ∈ acc
    · rw [if_pos c, mem_ddp t acc, List.mem_cons]
      constructor
      · rintro (h | h)
        · exact .inl (.inr h)
        · exact .inr h
      · rintro ((h | h) | h)
        · rw [h]; exact .inr c
        · exact .inl h
        · exact .inr h
    · rw [if_neg c, mem_ddp t _, List.mem_append, List.mem_singleton, List.mem_cons]
      constructor
      · rintro (h | h | h)
        · exact .inl (.inr h)
        · exact .inr h
        · exact .inl (.inl h)
      · rintro ((h | h) | h)
        · exact .inr (.inr h)
        · exact .inl h
        · exact .inr (.inl h)
theorem ddp_nodup : ∀ (ys acc : List (List Int)), acc.Nodup → (ddp ys acc).Nodup
  | [], acc, h => h
  | a :: t, acc, h => by
    unfold ddp
    by_cases c : a ∈ acc
    · rw [if_pos c]; exact ddp_nodup t acc h
    · rw [if_neg c]
      refine ddp_nodup t _ (List.nodup_append.2 ⟨h, by simp, fun x hx y hy => ?_⟩)
      rw [List.mem_singleton.1 hy]
      exact fun e => c (e ▸ hx)
theorem ddp_perm {ys zs : List (List Int)} (h : ∀ y, y ∈ ys ↔ y ∈ zs) : (ddp ys []).Perm (ddp zs []) := by
  refine (List.perm_ext_iff_of_nodup (ddp_nodup ys [] List.nodup_nil) (ddp_nodup zs [] List.nodup_nil)).2 fun y => ?_
  rw [mem_ddp, mem_ddp, h y]
end Go.Proofs.Ytlohlekofckcgaa.F
/- Minimal polynomials, their degrees and conjugates. Plain. -/
namespace Go.Proofs.Ytlohlekofckcgaa.F
open Go.RowKit Go.Proofs.Ytlohlekofckcgaa.R
set_option linter.unusedVariables false
set_option linter.unusedSimpArgs false
theorem fnd_zero {m : Nat} {x y : List Int} : ∀ U : List Int, (fnd m x y U).2 = 0 → (fnd m x y U).1 ∈ U ∧ imT m x (fnd m x y U).1 = y
  | [], h => by cases h
  | a :: t, h => by
    unfold fnd at h ⊢
    by_cases c : imT m x a = y
    · rw [if_pos c]
      exact ⟨List.mem_cons_self, c⟩
    · rw [if_neg c] at h ⊢
      obtain ⟨g1, g2⟩ := fnd_zero t h
      exact ⟨List.mem_cons_of_mem _ g1, g2⟩
/-- What is found leads to the number. -/
theorem find2_image {m n : Int} {x y : List Int} (h : (find2 m x n y).2 = 0) : gal3 m x (find2 m x n y).1 = (n, y, 0) := by
  unfold find2 at h ⊢
  by_cases c : codeC m x n y = 0
  · rw [if_neg (fun g => g c)] at h ⊢
    obtain ⟨c1, c2, rfl⟩ := codeC_zero c
    obtain ⟨j, rfl, h1, h2, h3, h4, h5⟩ := isC_x c1
    obtain ⟨g1, g2⟩ := fnd_zero _ h
    obtain ⟨j', e, _, _, _, _, gy⟩ := isC_x c2
    have : j = j' := by omega
    subst this
    rw [Int.toNat_natCast] at g1 g2 ⊢
    obtain ⟨u1, u2, u3⟩ := unit_range g1
    unfold gal3 told3
    rw [if_pos c1, if_pos ⟨⟨u1, u2⟩, by omega⟩, Int.toNat_natCast, g2, if_pos (good_small gy)]
  · rw [if_pos c] at h
    exact absurd h c
theorem conj_unit : ∀ n : Nat, 1 ≤ n → n ≤ 16 → ∃ b ∈ unitsN n, b % n = (n - 1) % n :=
  by16 ⟨1, by decide, by decide⟩ ⟨1, by decide, by decide⟩ ⟨2, by decide, by decide⟩ ⟨3, by decide, by decide⟩ ⟨4, by decide, by decide⟩ ⟨5, by decide, by decide⟩ ⟨6, by decide, by decide⟩ ⟨7, by decide, by decide⟩ ⟨8, by decide, by decide⟩ ⟨9, by decide, by decide⟩ ⟨10, by decide, by decide⟩ ⟨11, by decide, by decide⟩ ⟨12, by decide, by decide⟩ ⟨13, by decide, by decide⟩ ⟨14, by decide, by decide⟩ ⟨15, by decide, by decide⟩
theorem conj_img {n : Nat} (h1 : 1 ≤ n) (h2 : n ≤ 16) {x : List Int} (hx : GoodZ n x) : ∃ b ∈ unitsN n, imT n x (-1) = imN n x b := by
  obtain ⟨b, hb, e⟩ := conj_unit n h1 h2
  refine ⟨b, hb, ?_⟩
  rw [imT_neg h1, imT_nat h1 h2 hx]
  exact imN_mod n x e.symm
theorem poly2_zero {n : Int} {x : List Int} {dd : Bool} (h : (poly2 n x dd).2 = 0) : ∃ m : Nat, ∃ Q, n = m ∧ 1 ≤ m ∧ m ≤ 16 ∧ isC n x = true ∧ GoodZ m x ∧ polyAll m (sel dd (imgL m x) (imgL m x).length 0) [oneT m] = some Q ∧ poly2 n x dd = (Q.map fun y => rd y (0 : Nat), 0) := by
  unfold poly2 at h ⊢
  split at h
  · rename_i c
    obtain ⟨m, rfl, h1, h2, h3, h4, h5⟩ := isC_x c
    rw [if_pos c]
    rw [Int.toNat_natCast] at h ⊢
    cases e : polyAll m (sel dd (imgL m x) (imgL m x).length 0) [oneT m] with
    | none => rw [e] at h; cases h
    | some Q => exact ⟨m, Q, rfl, h1, h2, c, h5, e, rfl⟩
  · cases h
theorem poly2_not {n : Int} {x : List Int} {dd : Bool} (h : ¬ (poly2 n x dd).2 = 0) : (poly2 n x dd).1 = [] := by
  unfold poly2 at h ⊢
  split at h
  · rename_i c
    rw [if_pos c]
    cases e : polyAll n.toNat (sel dd (imgL n.toNat x) (imgL n.toNat x).length 0) [oneT n.toNat] with
    | none => rfl
    | some Q => rw [e] at h; exact absurd rfl h
  · rename_i c
    rw [if_neg c]
theorem poly2_len {n : Int} {x : List Int} {dd : Bool} : (poly2 n x dd).1.length ≤ 100 := by
  by_cases h : (poly2 n x dd).2 = 0
  · obtain ⟨m, Q, rfl, h1, h2, c, h5, e, e2⟩ := poly2_zero h
    rw [e2]
    have hP : GoodP m [oneT m] := fun y hy => by rw [List.mem_singleton.1 hy]; exact oneT_good m
    have g2 : Q.length = 1 + _ := (polyAll_good _ _ Q hP e).2
    have := sel_len dd (imgL m x) (imgL m x).length 0
    have := imgL_len h1 h2 x
    have := le12 h1 h2
    show (Q.map fun y => rd y (0 : Nat)).length ≤ 100
    rw [List.length_map]
    omega
  · rw [poly2_not h]
    exact Nat.zero_le _
theorem sel_ddp {ys : List (List Int)} : sel true ys ys.length 0 = ddp ys [] := by
  have := ddp_sel (ys := ys) ys.length 0 [] (by omega) (fun y => by simp)
  rw [List.drop_zero, List.nil_append] at this
  exact this.symm
/-- A minimal polynomial: its degree, the conjugate, and the conjugate's polynomial. -/
theorem minimal_facts {n : Int} {x : List Int} (h : (poly2 n x true).2 = 0) : (deg2 n x).2 = 0 ∧ ((poly2 n x true).1.length : Int) = w64 ((deg2 n x).1 + 1) ∧ (bar3 n x).2.2 = 0 ∧ ((poly2 (bar3 n x).1 (bar3 n x).2.1 true).2 = 0 → (poly2 (bar3 n x).1 (bar3 n x).2.1 true).1 = (poly2 n x true).1) := by
  obtain ⟨m, Q, rfl, h1, h2, c, h5, e, e2⟩ := poly2_zero h
  have C := cyc_facts h1 h2
  have := C.le12
  have hl := imgL_len h1 h2 x
  have hP : GoodP m [oneT m] := fun y hy => by rw [List.mem_singleton.1 hy]; exact oneT_good m
  have g2 : Q.length = 1 + _ := (polyAll_good _ _ Q hP e).2
  have hs := sel_len true (imgL m x) (imgL m x).length 0
  have hf := imgL_fair h1 h2 h5
  obtain ⟨r1, _⟩ := roots_good h1 h2 _ [oneT m] Q hP (by simp) rfl (fun v hv => (hf v (sel_mem _ 0 (by omega) hv)).1) e
  rw [sel_ddp] at e r1
  obtain ⟨b, hb, eb⟩ := conj_img h1 h2 h5
  have hmem : imT m x (-1) ∈ imgL m x := by
    rw [eb, imgL_nat h1 h2 h5]
    exact List.mem_map.2 ⟨b, hb, rfl⟩
  have hg : GoodZ m (imT m x (-1)) := r1 _ ((mem_ddp _ _).2 (.inl hmem))
  have hbar : bar3 (m : Int) x = ((m : Int), imT m x (-1), 0) := bar3_of h1 h2 h5 hg
  have hdeg : deg2 (m : Int) x = ((((sel true (imgL m x) (imgL m x).length 0).length : Nat) : Int), (0 : Int)) := by
    unfold deg2
    rw [if_pos c, Int.toNat_natCast]
  rw [hbar, hdeg, e2]
  refine ⟨rfl, ?_, rfl, fun h' => ?_⟩
  · dsimp only
    rw [List.length_map, g2, w64_up (by omega)]
    omega
  · obtain ⟨m', Q', e0, _, _, c', h5', e', e2'⟩ := poly2_zero h'
    dsimp only at e0
    have : m = m' := by omega
    subst this
    dsimp only at e2' e' h5' ⊢
    rw [e2']
    rw [sel_ddp] at e'
    have hp : (imgL m (imT m x (-1))).Perm (imgL m x) := by
      rw [imgL_nat h1 h2 hg, imgL_nat h1 h2 h5, eb]
      have e3 : ((unitsN m).map (imN m (imN m x b))) = (unitsN m).map fun a => imN m x (a * b) := List.map_congr_left fun a ha => by rw [imN_imN h1 h2 b (mem_unitsN.1 ha).2, Nat.mul_comm]
      rw [e3]
      exact images_turn h1 h2 x hb
    have := polyAll_perm h1 h2 (ddp_perm fun y => hp.mem_iff) hP e' e
    rw [this]
end Go.Proofs.Ytlohlekofckcgaa.F
/- The exact laws' own words: sizes, copies, comparisons, marks. -/
namespace Go.Proofs.Ytlohlekofckcgaa.F
open Go.RowKit Go.Proofs.Ytlohlekofckcgaa.R
set_option linter.unusedVariables false
set_option linter.unusedSectionVars false
section
variable {A : Type} (z : A)
theorem sz_eq (n : Int) {x : List Int} (hx : x.length ≤ 9223372036854775807) (k : Nat) (hk : 2 ≤ k) (Φ : Int → A) : laws_szCyclo z k n x 1048576 Φ = if x.length ≤ 1048576 then Φ (1048576 - (x.length : Int)) else Φ (-1) := by
  obtain ⟨k, rfl⟩ := le_ex (show 2 ≤ k by omega)
  simp only [laws_szCyclo, laws_szInt64S, step_succ]
  rw [w64_id (by omega) (by omega)]
  by_cases h : x.length ≤ 1048576
  · rw [if_pos h, if_neg (by omega), if_neg (by omega)]
  · rw [if_neg h, if_pos (by omega), if_pos (by omega)]
theorem toInt_g4 {x : List Int} (hx : x.length ≤ 1048576) {K0 : List Int → A} : ∀ (d i k : Nat) (acc : List Int), i + d = x.length → acc.length = x.length → acc.take i = x.take i → d + 1 ≤ k →
    laws_toInt64S.g4 z k x (i : Int) acc K0 = K0 x
  | d, i, 0, acc, _, _, _, hk => absurd hk (by omega)
  | 0, i, k + 1, acc, hi, hl, ha, hk => by
    rw [laws_toInt64S.g4, if_neg (by omega)]
    rw [List.take_of_length_le (by omega), List.take_of_length_le (by omega)] at ha
    rw [ha]
  | d + 1, i, k + 1, acc, hi, hl, ha, hk => by
    have hlt : i < x.length := by omega
    rw [laws_toInt64S.g4, if_pos (by omega), inI_at z hlt, inI_at z (show i < acc.length by omega), w64_up (by omega)]
    refine toInt_g4 hx d (i + 1) k _ (by omega) (by rw [List.length_set]; exact hl) ?_ (by omega)
    rw [List.take_succ_eq_append_getElem (by rw [List.length_set]; omega), List.take_succ_eq_append_getElem hlt, List.getElem_set_self, getD_at hlt, List.take_set_of_le (Nat.le_refl i), ha]
theorem toInt_eq {x : List Int} (hx : x.length ≤ 1048576) (k : Nat) (hk : x.length + 2 ≤ k) (Φ : List Int → A) : laws_toInt64S z k x Φ = Φ x := by
  obtain ⟨k, rfl, hk⟩ := up hk
  simp only [laws_toInt64S, step_succ]
  rw [mkI_at z (by omega)]
  exact toInt_g4 z hx x.length 0 k _ (by omega) (by simp) (by simp) (by omega)
theorem toCyclo_eq (n : Int) {x : List Int} (hx : x.length ≤ 1048576) (k : Nat) (hk : x.length + 3 ≤ k) (Φ : Int → List Int → A) : laws_toCyclo z k n x Φ = Φ n x := by
  obtain ⟨k, rfl, hk⟩ := up hk
  simp only [laws_toCyclo, step_succ]
  exact toInt_eq z hx k (by omega) _
theorem eqInt_g {a b : List Int} (ha : a.length ≤ 1048576) (hab : a.length = b.length) {K0 : Bool → A} {K1 : A} : ∀ (d i k : Nat), i + d = a.length → d + 1 ≤ k →
    laws_eqInt64S.g6 z k a b (i : Int) K0 K1 = bif decide (a.drop i = b.drop i) then K1 else K0 false
  | d, i, 0, _, hk => absurd hk (by omega)
  | 0, i, k + 1, hi, hk => by
    rw [laws_eqInt64S.g6, if_neg (by omega), List.drop_eq_nil_of_le (by omega), List.drop_eq_nil_of_le (by omega)]
    rfl
  | d + 1, i, k + 1, hi, hk => by
    have hlt : i < a.length := by omega
    rw [laws_eqInt64S.g6, if_pos (by omega), inI_at z hlt, inI_at z (show i < b.length by omega), drop_cons hlt, drop_cons (show i < b.length by omega)]
    by_cases h : a.getD i 0 = b.getD i 0
    · rw [if_neg (by simpa using h), w64_up (by omega), eqInt_g ha hab d (i + 1) k (by omega) (by omega), h]
      simp
    · rw [if_pos (by simpa using h), decide_eq_false (by simp only [List.cons.injEq]; exact fun e => h e.1), cond_false]
theorem eqInt_eq {a b : List Int} (ha : a.length ≤ 1048576) (k : Nat) (hk : a.length + 2 ≤ k) (Φ : Bool → A) : laws_eqInt64S z k a b Φ = Φ (decide (a = b)) := by
  obtain ⟨k, rfl, hk⟩ := up hk
  simp only [laws_eqInt64S, step_succ]
  by_cases h : a.length = b.length
  · rw [if_neg (by omega)]
    have h := eqInt_g z ha h (K0 := Φ) (K1 := Φ true) a.length 0 k (by omega) (by omega)
    rw [List.drop_zero, List.drop_zero] at h
    refine Eq.trans h ?_
    cases decide (a = b) <;> rfl
  · rw [if_pos (by omega), decide_eq_false (fun e => h (by rw [e]))]
theorem eqInt_self {a : List Int} (ha : a.length ≤ 1048576) (k : Nat) (hk : a.length + 2 ≤ k) (Φ : Bool → A) : laws_eqInt64S z k a a Φ = Φ true := by
  rw [eqInt_eq z ha k hk, decide_eq_true rfl]
theorem eqCyclo_self (n : Int) {a : List Int} (ha : a.length ≤ 1048576) (k : Nat) (hk : a.length + 3 ≤ k) (Φ : Bool → A) : laws_eqCyclo z k n a n a Φ = Φ true := by
  obtain ⟨k, rfl, hk⟩ := up hk
  simp only [laws_eqCyclo, step_succ]
  rw [if_neg (by simp), eqInt_self z ha k (by omega)]
  rfl
theorem w64_upB {i : Nat} (h : i < 100000000000000) : w64 ((i : Int) + 1) = ((i + 1 : Nat) : Int) := by rw [w64_id (by omega) (by omega)]; omega
/-- A row as it is marked: numbers in their order. -/
def markL (n m : Nat) : List Int := (List.range n).map fun i => ((m + i : Nat) : Int)
theorem markL_len (n m : Nat) : (markL n m).length = n := by simp [markL]
theorem markL_at {n m i : Nat} (h : i < n) : (markL n m).getD i 0 = ((m + i : Nat) : Int) := by
  rw [getD_at (by rw [markL_len]; exact h)]
  simp [markL]
theorem mark_g3 {x : List Int} (hx : x.length ≤ 1048576) {m : Nat} (hm : m ≤ 10000000) {K0 : Int → List Int → A} : ∀ (d i k : Nat) (acc : List Int), i + d = x.length → acc.length = x.length → acc.take i = (markL x.length m).take i → d + 1 ≤ k →
    laws_markInt64S.g3 z k ((m + i : Nat) : Int) (i : Int) acc K0 = K0 ((m + x.length : Nat) : Int) (markL x.length m)
  | d, i, 0, acc, _, _, _, hk => absurd hk (by omega)
  | 0, i, k + 1, acc, hi, hl, ha, hk => by
    rw [laws_markInt64S.g3, if_neg (by omega)]
    rw [List.take_of_length_le (by omega), List.take_of_length_le (by rw [markL_len]; omega)] at ha
    rw [ha, show i = x.length by omega]
  | d + 1, i, k + 1, acc, hi, hl, ha, hk => by
    rw [laws_markInt64S.g3, if_pos (by omega), inI_at z (show i < acc.length by omega), w64_upB (i := m + i) (by omega), w64_up (i := i) (by omega)]
    refine mark_g3 hx hm d (i + 1) k _ (by omega) (by rw [List.length_set]; exact hl) ?_ (by omega)
    have hlt : i < (markL x.length m).length := by rw [markL_len]; omega
    rw [List.take_succ_eq_append_getElem (by rw [List.length_set]; omega), List.take_succ_eq_append_getElem hlt, List.getElem_set_self, List.take_set_of_le (Nat.le_refl i), ha, ← getD_at hlt, markL_at (by omega)]
theorem mark_eq {x : List Int} (hx : x.length ≤ 1048576) {m : Nat} (hm : m ≤ 10000000) (k : Nat) (hk : x.length + 2 ≤ k) (Φ : List Int → Int → A) : laws_markInt64S z k x (m : Int) Φ = Φ (markL x.length m) ((m + x.length : Nat) : Int) := by
  obtain ⟨k, rfl, hk⟩ := up hk
  simp only [laws_markInt64S, step_succ]
  exact mark_g3 z hx hm x.length 0 k x (by omega) rfl (by simp) (by omega)
theorem markCyclo_eq (n : Int) {x : List Int} (hx : x.length ≤ 1048576) {m : Nat} (hm : m ≤ 10000000) (k : Nat) (hk : x.length + 3 ≤ k) (Φ : List Int → Int → A) : laws_markCyclo z k n x (m : Int) Φ = Φ (markL x.length m) ((m + x.length : Nat) : Int) := by
  obtain ⟨k, rfl, hk⟩ := up hk
  simp only [laws_markCyclo, step_succ]
  exact mark_eq z hx hm k (by omega) Φ
theorem held_g3 {n m : Nat} (hn : n ≤ 1048576) (hm : m ≤ 10000000) {K0 K1 : Int → A} : ∀ (d i k : Nat), i + d = n → d + 1 ≤ k →
    laws_heldInt64S.g3 z k (markL n m) ((m + i : Nat) : Int) (i : Int) K0 K1 = K1 ((m + n : Nat) : Int)
  | d, i, 0, _, hk => absurd hk (by omega)
  | 0, i, k + 1, hi, hk => by
    rw [laws_heldInt64S.g3, if_neg (by rw [markL_len]; omega), show i = n by omega]
  | d + 1, i, k + 1, hi, hk => by
    rw [laws_heldInt64S.g3, if_pos (by rw [markL_len]; omega), inI_at z (show i < (markL n m).length by rw [markL_len]; omega), markL_at (by omega), if_neg (by simp), w64_upB (i := m + i) (by omega), w64_up (i := i) (by omega)]
    exact held_g3 hn hm d (i + 1) k (by omega) (by omega)
theorem held_eq {n m : Nat} (hn : n ≤ 1048576) (hm : m ≤ 10000000) (k : Nat) (hk : n + 2 ≤ k) (Φ : Int → A) : laws_heldInt64S z k (markL n m) (m : Int) Φ = Φ ((m + n : Nat) : Int) := by
  obtain ⟨k, rfl, hk⟩ := up hk
  simp only [laws_heldInt64S, step_succ]
  exact held_g3 z hn hm n 0 k (by omega) (by omega)
end
end Go.Proofs.Ytlohlekofckcgaa.F
/- The exact law of minimal polynomials answers true. -/
namespace Go.Proofs.Ytlohlekofckcgaa.F
open Go.RowKit Go.Proofs.Ytlohlekofckcgaa.R
set_option linter.unusedVariables false
set_option linter.unusedSectionVars false
section
variable {A : Type} (z : A)
theorem law_eq (n : Int) {x : List Int} (hx : x.length ≤ 9223372036854775807) (k : Nat) (hk : 1200000 ≤ k) (Φ : Bool → A) : laws_FnExactMinimalOf z k n x Φ = Φ true := by
  obtain ⟨k, rfl⟩ := le_ex (show 1 ≤ k by omega)
  simp only [laws_FnExactMinimalOf, step_succ]
  rw [sz_eq z n hx k (by omega)]
  by_cases h : x.length ≤ 1048576
  · have hl := poly2_len (n := n) (x := x) (dd := true)
    rw [if_pos h, if_neg (by omega), toCyclo_eq z n h k (by omega), specMinimal_eq z n (by omega) k (by omega), toCyclo_eq z n h k (by omega), minimal_eq z n (by omega) k (by omega), eqInt_self z (by omega) k (by omega), Bool.not_true, cond_false, if_neg (by simp),
      toCyclo_eq z n h k (by omega), eqCyclo_self z n h k (by omega), Bool.not_true, cond_false, show (1 : Int) = ((1 : Nat) : Int) by rfl, markCyclo_eq z n h (by omega) k (by omega), if_neg (by omega), eqInt_self z (by omega) k (by omega), Bool.not_true, cond_false, if_neg (by simp),
      mark_eq z (by omega) (by omega) k (by omega), held_eq z (by omega) (by omega) k (by omega), if_neg (by omega), if_neg (by simp), toCyclo_eq z n h k (by omega), minimal_eq z n (by omega) k (by omega), eqInt_self z (by omega) k (by omega), Bool.not_true, cond_false, if_neg (by simp), held_eq z (by omega) (by omega) k (by omega), if_neg (by omega), if_neg (by simp)]
  · rw [if_neg h, if_pos (by omega)]
end
end Go.Proofs.Ytlohlekofckcgaa.F
