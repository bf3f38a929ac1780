/- Facts on what the printed functions tell. -/
import Derived.Test.YtefdcoeidpbcjaaZF1
import Derived.Test.YtefdcoeidpbcjaaZV
/- Facts on the printed functions of the first layer: ranges, divisors, totients, lists. -/
namespace Go.Proofs.Ytefdcoeidpbcjaa.F
open Go.RowKit Go.Proofs.Ytefdcoeidpbcjaa.R
set_option linter.unusedVariables false
set_option linter.unusedSimpArgs false
theorem by16 {P : Nat → Prop} (h1 : P 1) (h2 : P 2) (h3 : P 3) (h4 : P 4) (h5 : P 5) (h6 : P 6) (h7 : P 7) (h8 : P 8) (h9 : P 9) (h10 : P 10) (h11 : P 11) (h12 : P 12) (h13 : P 13) (h14 : P 14) (h15 : P 15) (h16 : P 16) : ∀ n : Nat, 1 ≤ n → n ≤ 16 → P n
  | 1, _, _ => h1 | 2, _, _ => h2 | 3, _, _ => h3 | 4, _, _ => h4 | 5, _, _ => h5 | 6, _, _ => h6 | 7, _, _ => h7 | 8, _, _ => h8
  | 9, _, _ => h9 | 10, _, _ => h10 | 11, _, _ => h11 | 12, _, _ => h12 | 13, _, _ => h13 | 14, _, _ => h14 | 15, _, _ => h15 | 16, _, _ => h16
  | 0, h, _ => absurd h (by omega)
  | n + 17, _, h => absurd h (by omega)
theorem le_ex {K k : Nat} (h : K ≤ k) : ∃ j, k = j + K := ⟨k - K, by omega⟩
theorem tmod_lt {a n : Int} (hn : 1 ≤ n) : -n < Int.tmod a n ∧ Int.tmod a n < n := ⟨Int.lt_tmod_of_pos a (by omega), Int.tmod_lt_of_pos a (by omega)⟩
theorem tmod_emod (a n : Int) : Int.tmod a n % n = a % n := by
  rw [Int.tmod_def, Int.sub_mul_emod_self_left]
theorem tmod_zero {a n : Int} : Int.tmod a n = 0 ↔ a % n = 0 := by
  rw [← Int.dvd_iff_tmod_eq_zero, Int.dvd_iff_emod_eq_zero]
section
variable {A : Type} (z : A)
theorem within_eq (k : Nat) (a lo hi : Int) (Φ : Bool → A) : impl_within z (k + 1) a lo hi Φ = Φ (decide (lo ≤ a ∧ a ≤ hi)) := by
  simp only [impl_within, step_succ]
  by_cases h : lo ≤ a <;> simp [h]
theorem in_eq (k : Nat) (a lo hi : Int) (Φ : Bool → A) : spec_l01In z (k + 1) a lo hi Φ = Φ (decide (lo ≤ a ∧ a ≤ hi)) := by
  simp only [spec_l01In, step_succ]
  by_cases h : lo ≤ a <;> simp [h]
theorem isOrder_eq (k : Nat) (n : Int) (Φ : Bool → A) : impl_isOrder z (k + 2) n Φ = Φ (decide (1 ≤ n ∧ n ≤ 16)) := by
  simp only [impl_isOrder, step_succ, within_eq]
theorem around_eq (k : Nat) {a n : Int} (hn : 1 ≤ n) (hn2 : n ≤ 1000000) (Φ : Int → A) : impl_around z (k + 1) a n Φ = Φ (a % n) := by
  obtain ⟨a0, a1⟩ := tmod_lt (a := a) hn
  simp only [impl_around, step_succ]
  rw [gd_ok z (by omega), gd_ok z (by omega), w64_id (by omega) (by omega), Int.tmod_eq_emod_of_nonneg (by omega), Int.add_emod_right, tmod_emod]
/-! divisors -/
theorem igcd_g {K0 : Int → A} : ∀ (d k : Nat) (a b : Int), 0 ≤ a → 0 ≤ b → b.toNat ≤ d → d < k → impl_gcd.g3 z k a b K0 = K0 (Int.gcd a b)
  | d, 0, a, b, _, _, _, hk => absurd hk (by omega)
  | d, k + 1, a, b, ha, hb, hd, hk => by
    rw [impl_gcd.g3]
    by_cases h : 0 < b
    · have h1 := Int.tmod_lt_of_pos a h
      have h2 := Int.tmod_nonneg b ha
      rw [if_pos h, gd_ok z (by omega)]
      cases d with
      | zero => omega
      | succ d => rw [igcd_g d k b _ hb h2 (by omega) (by omega), gcd_tmod a b ha h]
    · have : b = 0 := by omega
      subst this
      rw [if_neg h, Int.gcd_zero_right, Int.natAbs_of_nonneg ha]
theorem size_eq (k : Nat) {a : Int} (h : -9223372036854775808 < a ∧ a ≤ 9223372036854775807) (Φ : Int → A) : impl_size z (k + 1) a Φ = Φ (a.natAbs : Int) := by
  simp only [impl_size, step_succ]
  rw [w64_id (by omega) (by omega)]
  congr 1
  unfold maxI
  split <;> omega
theorem igcd_eq {a b : Int} (ha : -9223372036854775808 < a ∧ a ≤ 9223372036854775807) (hb : -9223372036854775808 < b ∧ b ≤ 9223372036854775807) (k : Nat) (hk : b.natAbs + 2 ≤ k) (Φ : Int → A) : impl_gcd z k a b Φ = Φ (Int.gcd a b) := by
  obtain ⟨j, rfl, hj⟩ := up hk
  obtain ⟨i, rfl, hi⟩ := up hj
  simp only [impl_gcd, step_succ]
  rw [size_eq z i ha, size_eq z i hb, igcd_g z b.natAbs (i + 1) _ _ (by omega) (by omega) (by omega) (by omega)]
  simp [Int.gcd]
theorem sgcd_g {K0 : Int → A} : ∀ (d k : Nat) (a b : Int), 0 ≤ a → 0 ≤ b → b.toNat ≤ d → d < k → spec_l01Gcd.g2 z k a b K0 = K0 (Int.gcd a b)
  | d, 0, a, b, _, _, _, hk => absurd hk (by omega)
  | d, k + 1, a, b, ha, hb, hd, hk => by
    rw [spec_l01Gcd.g2]
    by_cases h : b ≠ 0
    · have hp : 0 < b := by omega
      have h1 := Int.tmod_lt_of_pos a hp
      have h2 := Int.tmod_nonneg b ha
      rw [if_pos h, gd_ok z h]
      cases d with
      | zero => omega
      | succ d => rw [sgcd_g d k b _ hb h2 (by omega) (by omega), gcd_tmod a b ha hp]
    · have : b = 0 := by omega
      subst this
      rw [if_neg h, Int.gcd_zero_right, Int.natAbs_of_nonneg ha]
theorem sgcd_eq {a b : Int} (ha : 0 ≤ a ∧ a ≤ 9223372036854775807) (hb : 0 ≤ b ∧ b ≤ 9223372036854775807) (k : Nat) (hk : b.natAbs + 2 ≤ k) (Φ : Int → A) : spec_l01Gcd z k a b Φ = Φ (Int.gcd a b) := by
  obtain ⟨j, rfl, hj⟩ := up hk
  simp only [spec_l01Gcd, step_succ]
  rw [sgcd_g z b.natAbs j _ _ ha.1 hb.1 (by omega) (by omega)]
  have hg : (Int.gcd a b : Int) ≤ 9223372036854775807 := by
    unfold Int.gcd
    rcases Nat.eq_zero_or_pos a.natAbs with h | h
    · rw [h, Nat.gcd_zero_left]; omega
    · have := Nat.gcd_le_left b.natAbs h; omega
  rw [w64_id (by omega) (by omega)]
  congr 1
  unfold maxI
  split <;> omega
theorem isPrimeTo_eq {n : Nat} (h1 : 1 ≤ n) (h2 : n ≤ 1000) (a : Int) (k : Nat) (hk : 1010 ≤ k) (Φ : Bool → A) : impl_isPrimeTo z k a n Φ = Φ (decide ((1 ≤ a ∧ a ≤ n) ∧ Int.gcd a n = 1)) := by
  obtain ⟨j, rfl, hj⟩ := up hk
  obtain ⟨i, rfl, hi⟩ := up hj
  simp only [impl_isPrimeTo, step_succ]
  rw [within_eq]
  by_cases h : 1 ≤ a ∧ a ≤ (n : Int)
  · rw [decide_eq_true h, cond_true, igcd_eq z (by omega) (by omega) _ (by omega)]
    congr 1
    simp only [h, true_and, and_self]
    congr 1
    apply propext
    omega
  · rw [decide_eq_false h, cond_false]
    simp [h]
end
/-! tables -/
theorem totient_tab : ∀ n : Nat, 1 ≤ n → n ≤ 16 → ∀ (j : Nat) (A : Type) (z : A) (Φ : Int → A), impl_totient z (j + 60) (n : Int) Φ = Φ (cycD n : Int) :=
  by16 (fun _ _ _ _ => by kernel_rfl) (fun _ _ _ _ => by kernel_rfl) (fun _ _ _ _ => by kernel_rfl) (fun _ _ _ _ => by kernel_rfl) (fun _ _ _ _ => by kernel_rfl) (fun _ _ _ _ => by kernel_rfl) (fun _ _ _ _ => by kernel_rfl) (fun _ _ _ _ => by kernel_rfl) (fun _ _ _ _ => by kernel_rfl) (fun _ _ _ _ => by kernel_rfl) (fun _ _ _ _ => by kernel_rfl) (fun _ _ _ _ => by kernel_rfl) (fun _ _ _ _ => by kernel_rfl) (fun _ _ _ _ => by kernel_rfl) (fun _ _ _ _ => by kernel_rfl) (fun _ _ _ _ => by kernel_rfl)
theorem phi_tab : ∀ n : Nat, 1 ≤ n → n ≤ 16 → ∀ (j : Nat) (A : Type) (z : A) (Φ : Int → A), spec_l01Phi z (j + 60) (n : Int) Φ = Φ (cycD n : Int) :=
  by16 (fun _ _ _ _ => by kernel_rfl) (fun _ _ _ _ => by kernel_rfl) (fun _ _ _ _ => by kernel_rfl) (fun _ _ _ _ => by kernel_rfl) (fun _ _ _ _ => by kernel_rfl) (fun _ _ _ _ => by kernel_rfl) (fun _ _ _ _ => by kernel_rfl) (fun _ _ _ _ => by kernel_rfl) (fun _ _ _ _ => by kernel_rfl) (fun _ _ _ _ => by kernel_rfl) (fun _ _ _ _ => by kernel_rfl) (fun _ _ _ _ => by kernel_rfl) (fun _ _ _ _ => by kernel_rfl) (fun _ _ _ _ => by kernel_rfl) (fun _ _ _ _ => by kernel_rfl) (fun _ _ _ _ => by kernel_rfl)
theorem cyclo_tab : ∀ n : Nat, 1 ≤ n → n ≤ 16 → ∀ (j : Nat) (A : Type) (z : A) (Φ : List Int → A), spec_l01Cyclotomic z (j + 200) (n : Int) Φ = Φ (cycF n) :=
  by16 (fun _ _ _ _ => by kernel_rfl) (fun _ _ _ _ => by kernel_rfl) (fun _ _ _ _ => by kernel_rfl) (fun _ _ _ _ => by kernel_rfl) (fun _ _ _ _ => by kernel_rfl) (fun _ _ _ _ => by kernel_rfl) (fun _ _ _ _ => by kernel_rfl) (fun _ _ _ _ => by kernel_rfl) (fun _ _ _ _ => by kernel_rfl) (fun _ _ _ _ => by kernel_rfl) (fun _ _ _ _ => by kernel_rfl) (fun _ _ _ _ => by kernel_rfl) (fun _ _ _ _ => by kernel_rfl) (fun _ _ _ _ => by kernel_rfl) (fun _ _ _ _ => by kernel_rfl) (fun _ _ _ _ => by kernel_rfl)
theorem field_tab : ∀ n : Nat, 1 ≤ n → n ≤ 16 → ∀ (j : Nat) (A : Type) (z : A) (Φ : Int → Int → List (List Int) → A), impl_fieldOf z (j + 200) (n : Int) Φ = Φ n (cycD n : Int) (cycP n) :=
  by16 (fun _ _ _ _ => by kernel_rfl) (fun _ _ _ _ => by kernel_rfl) (fun _ _ _ _ => by kernel_rfl) (fun _ _ _ _ => by kernel_rfl) (fun _ _ _ _ => by kernel_rfl) (fun _ _ _ _ => by kernel_rfl) (fun _ _ _ _ => by kernel_rfl) (fun _ _ _ _ => by kernel_rfl) (fun _ _ _ _ => by kernel_rfl) (fun _ _ _ _ => by kernel_rfl) (fun _ _ _ _ => by kernel_rfl) (fun _ _ _ _ => by kernel_rfl) (fun _ _ _ _ => by kernel_rfl) (fun _ _ _ _ => by kernel_rfl) (fun _ _ _ _ => by kernel_rfl) (fun _ _ _ _ => by kernel_rfl)
section
variable {A : Type} (z : A) {n : Nat} (h1 : 1 ≤ n) (h2 : n ≤ 16)
include h1 h2
theorem totient_eq (k : Nat) (hk : 60 ≤ k) (Φ : Int → A) : impl_totient z k (n : Int) Φ = Φ (cycD n : Int) := by
  obtain ⟨j, rfl⟩ := le_ex hk
  exact totient_tab n h1 h2 j A z Φ
theorem phi_eq (k : Nat) (hk : 60 ≤ k) (Φ : Int → A) : spec_l01Phi z k (n : Int) Φ = Φ (cycD n : Int) := by
  obtain ⟨j, rfl⟩ := le_ex hk
  exact phi_tab n h1 h2 j A z Φ
theorem cyclo_eq (k : Nat) (hk : 200 ≤ k) (Φ : List Int → A) : spec_l01Cyclotomic z k (n : Int) Φ = Φ (cycF n) := by
  obtain ⟨j, rfl⟩ := le_ex hk
  exact cyclo_tab n h1 h2 j A z Φ
theorem field_eq (k : Nat) (hk : 200 ≤ k) (Φ : Int → Int → List (List Int) → A) : impl_fieldOf z k (n : Int) Φ = Φ n (cycD n : Int) (cycP n) := by
  obtain ⟨j, rfl⟩ := le_ex hk
  exact field_tab n h1 h2 j A z Φ
end
end Go.Proofs.Ytefdcoeidpbcjaa.F
/- Facts on the printed functions of the first layer: what is told of lists. -/
namespace Go.Proofs.Ytefdcoeidpbcjaa.F
open Go.RowKit Go.Proofs.Ytefdcoeidpbcjaa.R
set_option linter.unusedVariables false
set_option linter.unusedSimpArgs false
def smallB (B : Int) (l : List Int) : Bool := l.all fun x => decide (-B ≤ x ∧ x ≤ B)
theorem small_one (l : List Int) : smallB 1000000000 l = smallL l := rfl
theorem w64_up {i : Nat} (h : i < 2000000) : w64 ((i : Int) + 1) = ((i + 1 : Nat) : Int) := by rw [w64_id (by omega) (by omega)]; omega
theorem getD_at {l : List Int} {i : Nat} (h : i < l.length) : l.getD i 0 = l[i] := by simp [List.getD_eq_getElem?_getD, h]
theorem drop_cons {l : List Int} {i : Nat} (h : i < l.length) : l.drop i = l.getD i 0 :: l.drop (i + 1) := by
  rw [getD_at h]; exact List.drop_eq_getElem_cons h
section
variable {A : Type} (z : A)
theorem index_g {l : List Int} (hl : l.length ≤ 1000000) {B : Int} (hB : 0 ≤ B ∧ B ≤ 1000000000) {K0 : Int → A} {K1 Kt : A} (hK : ∀ i : Nat, K0 (i : Int) = Kt) : ∀ (d i k : Nat), i + d = l.length → d + 4 ≤ k →
    slices_IndexFunc_Sint64_int64_c95.g3 z k l B (l.length : Int) (i : Int) K0 K1 = bif smallB B (l.drop i) then K1 else Kt
  | d, i, 0, _, hk => absurd hk (by omega)
  | 0, i, k + 1, hi, hk => by
    rw [slices_IndexFunc_Sint64_int64_c95.g3, if_neg (by omega), List.drop_eq_nil_of_le (by omega)]
    rfl
  | d + 1, i, k + 1, hi, hk => by
    obtain ⟨j, rfl, hj⟩ := up (show d + 3 + 1 ≤ k by omega)
    obtain ⟨m, rfl, hm⟩ := up hj
    have hlt : i < l.length := by omega
    rw [slices_IndexFunc_Sint64_int64_c95.g3, if_pos (by omega), inI_at z hlt]
    simp only [impl_areSmall_1, step_succ]
    rw [w64_id (by omega) (by omega), within_eq, drop_cons hlt]
    simp only [smallB, List.all_cons]
    by_cases h : 0 - B ≤ l.getD i 0 ∧ l.getD i 0 ≤ B
    · rw [decide_eq_true h, decide_eq_true (show -B ≤ l.getD i 0 ∧ l.getD i 0 ≤ B by omega), Bool.not_true, cond_false, w64_up (by omega), Bool.true_and]
      exact index_g hl hB hK d (i + 1) (m + 1 + 1) (by omega) (by omega)
    · rw [decide_eq_false h, decide_eq_false (show ¬ (-B ≤ l.getD i 0 ∧ l.getD i 0 ≤ B) by omega), Bool.not_false, cond_true, Bool.false_and, cond_false]
      exact hK i
theorem areSmall_eq {l : List Int} (hl : l.length ≤ 1000000) {B : Int} (hB : 0 ≤ B ∧ B ≤ 1000000000) (k : Nat) (hk : l.length + 8 ≤ k) (Φ : Bool → A) : impl_areSmall z k l B Φ = Φ (smallB B l) := by
  obtain ⟨k, rfl⟩ := le_ex (show 3 ≤ k by omega)
  simp only [impl_areSmall, slices_ContainsFunc_Sint64_int64_c95, slices_IndexFunc_Sint64_int64_c95, step_succ]
  have h := index_g z hl hB (K0 := fun v1 => Φ (!decide (0 ≤ v1))) (K1 := Φ (!decide ((0 : Int) ≤ -1))) (Kt := Φ false) (fun i => by rw [decide_eq_true (show (0 : Int) ≤ (i : Int) by omega), Bool.not_true]) l.length 0 k (by omega) (by omega)
  rw [List.drop_zero] at h
  refine Eq.trans h ?_
  cases smallB B l <;> rfl
theorem fits_g {l : List Int} (hl : l.length ≤ 1000000) {K0 : Bool → A} {K1 : A} : ∀ (d i k : Nat), i + d = l.length → d + 2 ≤ k →
    spec_l01Fits.g3 z k (i : Int) l K0 K1 = bif smallL (l.drop i) then K1 else K0 false
  | d, i, 0, _, hk => absurd hk (by omega)
  | 0, i, k + 1, hi, hk => by
    rw [spec_l01Fits.g3, if_neg (by omega), List.drop_eq_nil_of_le (by omega)]
    rfl
  | d + 1, i, k + 1, hi, hk => by
    obtain ⟨j, rfl, hj⟩ := up (show 1 + 1 ≤ k by omega)
    have hlt : i < l.length := by omega
    rw [spec_l01Fits.g3, if_pos (by omega), inI_at z hlt, in_eq, drop_cons hlt]
    simp only [smallL, List.all_cons]
    by_cases h : -1000000000 ≤ l.getD i 0 ∧ l.getD i 0 ≤ 1000000000
    · rw [decide_eq_true h, Bool.not_true, cond_false, w64_up (by omega), Bool.true_and]
      exact fits_g hl d (i + 1) (j + 1) (by omega) (by omega)
    · rw [decide_eq_false h, Bool.not_false, cond_true, Bool.false_and, cond_false]
theorem fits_eq {l : List Int} (hl : l.length ≤ 1000000) (n : Int) (k : Nat) (hk : l.length + 4 ≤ k) (Φ : Bool → A) : spec_l01Fits z k n l Φ = Φ (smallL l) := by
  obtain ⟨k, rfl, hk⟩ := up hk
  simp only [spec_l01Fits, step_succ]
  have h := fits_g z hl (K0 := Φ) (K1 := Φ true) l.length 0 k (by omega) (by omega)
  rw [List.drop_zero] at h
  refine Eq.trans h ?_
  cases smallL l <;> rfl
theorem cycloOf_eq {l : List Int} (hl : l.length ≤ 1000000) (n : Int) (k : Nat) (hk : l.length + 9 ≤ k) (Φ : Int → List Int → Int → A) : impl_cycloOf z k n l Φ = bif smallL l then Φ n l 0 else Φ 0 [] 3 := by
  obtain ⟨k, rfl, hk⟩ := up hk
  simp only [impl_cycloOf, step_succ]
  rw [areSmall_eq z hl (by omega) k (by omega), small_one]
  cases smallL l <;> rfl
end
end Go.Proofs.Ytefdcoeidpbcjaa.F
/- Facts on the printed functions of the first layer: numbers of a field, reduced, turned, lifted. -/
namespace Go.Proofs.Ytefdcoeidpbcjaa.F
open Go.RowKit Go.Proofs.Ytefdcoeidpbcjaa.R
set_option linter.unusedVariables false
set_option linter.unusedSimpArgs false
def isC (n : Int) (l : List Int) : Bool := decide (1 ≤ n ∧ n ≤ 16) && (decide (l.length = cycD n.toNat) && smallL l)
theorem isC_len {n : Int} {l : List Int} (h : isC n l = true) : (∃ m : Nat, n = m ∧ 1 ≤ m ∧ m ≤ 16 ∧ l.length = cycD m) ∧ smallL l = true := by
  simp only [isC, Bool.and_eq_true, decide_eq_true_eq] at h
  exact ⟨⟨n.toNat, by omega, by omega, by omega, h.2.1⟩, h.2.2⟩
theorem le12 {n : Nat} (h1 : 1 ≤ n) (h2 : n ≤ 16) : cycD n ≤ 12 := (cyc_facts h1 h2).le12
section
variable {A : Type} (z : A)
theorem isCyclo_eq (n : Int) {l : List Int} (hl : l.length ≤ 1000000) (k : Nat) (hk : l.length + 70 ≤ k) (Φ : Bool → A) : impl_IsCyclo z k n l Φ = Φ (isC n l) := by
  obtain ⟨k, rfl⟩ := le_ex (show 3 ≤ k by omega)
  simp only [impl_IsCyclo, step_succ]
  rw [isOrder_eq]
  by_cases h : 1 ≤ n ∧ n ≤ 16
  · obtain ⟨m, rfl⟩ : ∃ m : Nat, n = m := ⟨n.toNat, by omega⟩
    rw [decide_eq_true h, cond_true, totient_eq z (by omega) (by omega) _ (by omega)]
    simp only [isC, Int.toNat_natCast, decide_eq_true h, Bool.true_and]
    by_cases hd : l.length = cycD m
    · rw [if_pos (by omega), areSmall_eq z hl (by omega) _ (by omega), decide_eq_true hd, Bool.true_and, small_one]
    · rw [if_neg (by omega), decide_eq_false hd, Bool.false_and]
  · rw [decide_eq_false h, cond_false]
    simp only [isC, decide_eq_false h, Bool.false_and]
theorem is01_eq (n : Int) {l : List Int} (hl : l.length ≤ 1000000) (k : Nat) (hk : l.length + 70 ≤ k) (Φ : Bool → A) : spec_l01Is z k n l Φ = Φ (isC n l) := by
  obtain ⟨k, rfl⟩ := le_ex (show 3 ≤ k by omega)
  simp only [spec_l01Is, step_succ]
  rw [in_eq]
  by_cases h : 1 ≤ n ∧ n ≤ 16
  · obtain ⟨m, rfl⟩ : ∃ m : Nat, n = m := ⟨n.toNat, by omega⟩
    rw [decide_eq_true h, cond_true, phi_eq z (by omega) (by omega) _ (by omega)]
    simp only [isC, Int.toNat_natCast, decide_eq_true h, Bool.true_and]
    by_cases hd : l.length = cycD m
    · rw [if_pos (by omega), fits_eq z hl _ _ (by omega), decide_eq_true hd, Bool.true_and]
    · rw [if_neg (by omega), decide_eq_false hd, Bool.false_and]
  · rw [decide_eq_false h, cond_false]
    simp only [isC, decide_eq_false h, Bool.false_and]
def codeC (m : Int) (a : List Int) (n : Int) (b : List Int) : Int := bif isC m a && isC n b then (if m = n then 0 else 2) else 1
theorem twoCode_eq (m n : Int) {a b : List Int} (ha : a.length ≤ 1000000) (hb : b.length ≤ 1000000) (k : Nat) (hk : a.length + b.length + 71 ≤ k) (Φ : Int → A) : impl_twoCode z k m a n b Φ = Φ (codeC m a n b) := by
  obtain ⟨k, rfl, hk⟩ := up hk
  simp only [impl_twoCode, step_succ]
  rw [isCyclo_eq z m ha k (by omega), isCyclo_eq z n hb k (by omega)]
  unfold codeC
  cases isC m a <;> cases isC n b <;> simp
  split <;> simp_all
theorem own_eq {l : List Int} (hl : l.length ≤ 1000000) (k : Nat) (hk : 1 ≤ k) (Φ : List Int → A) : spec_l01Own z k l Φ = Φ l := by
  obtain ⟨k, rfl, hk⟩ := up (K := 0) hk
  simp only [spec_l01Own, step_succ]
  rw [apI_ok z (by omega), List.nil_append]
theorem clone_eq {l : List Int} (hl : l.length ≤ 1000000) (k : Nat) (hk : 1 ≤ k) (Φ : List Int → A) : slices_Clone_Sint64_int64 z k l Φ = Φ l := by
  obtain ⟨k, rfl, hk⟩ := up (K := 0) hk
  simp only [slices_Clone_Sint64_int64, step_succ]
  rw [apI_ok z (by omega)]
theorem zero01_eq {n : Nat} (h1 : 1 ≤ n) (h2 : n ≤ 16) (k : Nat) (hk : 61 ≤ k) (Φ : Int → List Int → A) : spec_l01Zero z k n Φ = Φ n (List.replicate (cycD n) 0) := by
  obtain ⟨k, rfl, hk⟩ := up hk
  have := le12 h1 h2
  simp only [spec_l01Zero, step_succ]
  rw [phi_eq z h1 h2 _ (by omega), mkI_at z (by omega)]
/-! reduced -/
theorem red_g11 {F : List Int} {D : Nat} (hF : F.length = D + 1) (v : Int) {x : Nat} (hD : D ≤ x) {K0 : List Int → A} : ∀ (d c k : Nat) (L : List Int), c + d = D + 1 → x < L.length → L.length ≤ 1000 → d + 1 ≤ k →
    spec_l01Reduce.g11 z k (D : Int) (x : Int) v (c : Int) F L K0 = K0 (redIn F v (x - D) d c L)
  | d, c, 0, L, _, _, _, hk => absurd hk (by omega)
  | 0, c, k + 1, L, hc, hx, hl, hk => by
    rw [spec_l01Reduce.g11, if_neg (by omega)]
    rfl
  | d + 1, c, k + 1, L, hc, hx, hl, hk => by
    have e : w64 (w64 ((x : Int) - (D : Int)) + (c : Int)) = ((x - D + c : Nat) : Int) := by
      rw [w64_id (x := (x : Int) - D) (by omega) (by omega), w64_id (by omega) (by omega)]; omega
    rw [spec_l01Reduce.g11, if_pos (by omega), e, inI_at z (by omega), inI_at z (by omega), inI_at z (by omega), w64_up (by omega), red_g11 hF v hD d (c + 1) k _ (by omega) (by rw [List.length_set]; omega) (by rw [List.length_set]; omega) (by omega)]
    rfl
theorem redIn_length (F : List Int) (v : Int) (p : Nat) : ∀ (d c : Nat) (L : List Int), (redIn F v p d c L).length = L.length
  | 0, c, L => rfl
  | d + 1, c, L => by unfold redIn; rw [redIn_length F v p d, List.length_set]
theorem redOut_length (F : List Int) (D : Nat) : ∀ (x : Nat) (L : List Int), (redOut F D x L).length = L.length
  | 0, L => rfl
  | x + 1, L => by
    unfold redOut
    by_cases h : D ≤ x
    · rw [if_pos h, redOut_length F D x, redIn_length]
    · rw [if_neg h]
theorem red_g5 {F : List Int} {D : Nat} (h1 : 1 ≤ D) (hF : F.length = D + 1) {K0 : List Int → A} : ∀ (x k : Nat) (L : List Int), x ≤ L.length → L.length ≤ 1000 → x + D + 4 ≤ k →
    spec_l01Reduce.g5 z k (D : Int) ((x : Int) - 1) F L K0 = K0 (redOut F D x L)
  | x, 0, L, _, _, hk => absurd hk (by omega)
  | 0, k + 1, L, hx, hl, hk => by
    rw [spec_l01Reduce.g5, if_neg (by omega)]
    rfl
  | x + 1, k + 1, L, hx, hl, hk => by
    rw [show ((x + 1 : Nat) : Int) - 1 = (x : Int) by omega, spec_l01Reduce.g5]
    unfold redOut
    by_cases hD : D ≤ x
    · rw [if_pos (by omega), if_pos hD, inI_at z (by omega)]
      refine Eq.trans (red_g11 z hF _ hD (D + 1) 0 k L (by omega) (by omega) hl (by omega)) ?_
      rw [w64_id (by omega) (by omega), red_g5 h1 hF x k _ (by rw [redIn_length]; omega) (by rw [redIn_length]; omega) (by omega)]
      rfl
    · rw [if_neg (by omega), if_neg hD]
theorem red_g18 {R : List Int} {D : Nat} (hD : D ≤ 1000) (hR : R.length ≤ 1000) {K0 : List Int → A} : ∀ (d m k : Nat), m + d = D → d + 1 ≤ k →
    spec_l01Reduce.g18 z k (D : Int) (m : Int) R (tab D fun j => if j < m then rd R j else 0) K0 = K0 (tab D fun j => rd R j)
  | d, m, 0, _, hk => absurd hk (by omega)
  | 0, m, k + 1, hm, hk => by
    rw [spec_l01Reduce.g18, if_neg (by omega), show (tab D fun j => if j < m then rd R j else 0) = tab D fun j => rd R j from tab_congr (fun j hj => if_pos (by omega))]
  | d + 1, m, k + 1, hm, hk => by
    rw [spec_l01Reduce.g18, if_pos (by omega)]
    by_cases hr : m < R.length
    · rw [if_pos (by omega), inI_at z hr, inI_at z (by rw [tab_length]; omega), w64_up (by omega), tab_set]
      have e : (tab D fun j => if m = j then R.getD m 0 else if j < m then rd R j else 0) = tab D fun j => if j < m + 1 then rd R j else 0 := tab_congr (fun j hj => by
        by_cases c : m = j
        · subst c; rw [if_pos rfl, if_pos (by omega)]; rfl
        · rw [if_neg c]
          by_cases c2 : j < m
          · rw [if_pos c2, if_pos (by omega)]
          · rw [if_neg c2, if_neg (by omega)])
      rw [e, red_g18 hD hR d (m + 1) k (by omega) (by omega)]
    · rw [if_neg (by omega), show (tab D fun j => if j < m then rd R j else 0) = tab D fun j => rd R j from tab_congr (fun j hj => by
        by_cases c : j < m
        · rw [if_pos c]
        · rw [if_neg c, rd_out R j (by omega)])]
theorem reduce_eq {n : Nat} (h1 : 1 ≤ n) (h2 : n ≤ 16) {L : List Int} (hl : L.length ≤ 1000) (hw : Wrapped L) (k : Nat) (hk : L.length + 220 ≤ k) (Φ : Int → List Int → A) :
    spec_l01Reduce z k (n : Int) L Φ = Φ n (tab (cycD n) fun m => wrap64 (dot L (cycW n m))) := by
  obtain ⟨k, rfl, hk⟩ := up hk
  have C := cyc_facts h1 h2
  have := C.le12
  have := C.pos
  simp only [spec_l01Reduce, step_succ]
  rw [cyclo_eq z h1 h2 _ (by omega), own_eq z (by omega) _ (by omega), C.lenF, w64_id (x := ((cycD n + 1 : Nat) : Int) - 1) (by omega) (by omega), w64_id (x := (L.length : Int) - 1) (by omega) (by omega), show ((cycD n + 1 : Nat) : Int) - 1 = (cycD n : Int) by omega]
  rw [red_g5 z (by omega) C.lenF L.length k L (Nat.le_refl _) hl (by omega), zero01_eq z h1 h2 _ (by omega), tab_zero, show (tab (cycD n) fun _ => (0 : Int)) = tab (cycD n) fun j => if j < 0 then rd (redOut (cycF n) (cycD n) L.length L) j else 0 from tab_congr (fun j _ => (if_neg (by omega)).symm)]
  refine Eq.trans (red_g18 z (by omega) (by rw [redOut_length]; omega) (cycD n) 0 k (by omega) (by omega)) ?_
  rw [show (tab (cycD n) fun j => rd (redOut (cycF n) (cycD n) L.length L) j) = tab (cycD n) fun m => wrap64 (dot L (cycW n m)) from tab_congr (fun j hj => redL_rd C h1 L hw j hj)]
end
end Go.Proofs.Ytefdcoeidpbcjaa.F
/- Facts on the printed functions of the first layer: images, lifts, sums. -/
namespace Go.Proofs.Ytefdcoeidpbcjaa.F
open Go.RowKit Go.Proofs.Ytefdcoeidpbcjaa.R
set_option linter.unusedVariables false
set_option linter.unusedSimpArgs false
theorem mul_bd {i : Nat} {a : Int} (hi : i ≤ 100) (ha : -1000 ≤ a ∧ a ≤ 1000) : -1000000 ≤ (i : Int) * a ∧ (i : Int) * a ≤ 1000000 := by
  have := mul_le (a := (i : Int)) (b := a) (A := 1000) (B := 1000) (by omega) ha
  omega
theorem round_eq {v : Int} {n : Nat} (hv : -1000000 ≤ v ∧ v ≤ 1000000) (h1 : 1 ≤ n) (h2 : n ≤ 1000) : Int.tmod (w64 (Int.tmod (w64 v) n + n)) n = v % n := by
  obtain ⟨a0, a1⟩ := tmod_lt (a := v) (n := n) (by omega)
  rw [w64_id (x := v) (by omega) (by omega), w64_id (by omega) (by omega), Int.tmod_eq_emod_of_nonneg (by omega), Int.add_emod_right, tmod_emod]
theorem mod_nat (v : Int) {n : Nat} (h1 : 1 ≤ n) : v % n = (((v % n).toNat : Nat) : Int) ∧ (v % n).toNat < n := by
  have q0 := Int.emod_nonneg v (b := n) (by omega)
  have q1 := Int.emod_lt_of_pos v (b := n) (by omega)
  exact ⟨by omega, by omega⟩
section
variable {A : Type} (z : A)
theorem with178_in {row : List Int} (hr : row.length ≤ 1000) (v : Int) {K0 : List Int → A} : ∀ (d c k : Nat) (o : List Int), c + d = row.length → o.length = row.length → d + 1 ≤ k →
    impl_field_with_c97.g10 z k v row (row.length : Int) (c : Int) o K0 = K0 (addIn row v 0 d c o)
  | d, c, 0, o, _, _, hk => absurd hk (by omega)
  | 0, c, k + 1, o, hc, ho, hk => by
    rw [impl_field_with_c97.g10, if_neg (by omega)]
    rfl
  | d + 1, c, k + 1, o, hc, ho, hk => by
    rw [impl_field_with_c97.g10, if_pos (by omega), inI_at z (by omega), inI_at z (by omega), inI_at z (by omega), w64_up (by omega), with178_in hr v d (c + 1) k _ (by omega) (by rw [List.length_set]; exact ho) (by omega)]
    rw [show addIn row v 0 (d + 1) c o = addIn row v 0 d (c + 1) (o.set c (w64 (o.getD c 0 + w64 (v * row.getD c 0)))) by rw [addIn, Nat.zero_add]; rfl]
theorem with178_g {n : Nat} (h1 : 1 ≤ n) (h2 : n ≤ 16) {x : List Int} (hx : x.length ≤ 100) {a : Int} {q : Nat → Nat}
    (hq : ∀ i : Nat, i < x.length → q i < n ∧ ∀ k (K0 : Int → A), (impl_field_image_1 z (k + 1) (i : Int) a fun v3 => impl_around z (k + 1) v3 (n : Int) K0) = K0 (q i : Int)) {K0 : List Int → A} : ∀ (d i k : Nat) (o : List Int), i + d = x.length → o.length = cycD n → d + 20 ≤ k →
    impl_field_with_c97.g4 z k (n : Int) (cycP n) a x (x.length : Int) (i : Int) o K0 = K0 (imIn n x q d i o)
  | d, i, 0, o, _, _, hk => absurd hk (by omega)
  | 0, i, k + 1, o, hi, ho, hk => by
    rw [impl_field_with_c97.g4, if_neg (by omega)]
    rfl
  | d + 1, i, k + 1, o, hi, ho, hk => by
    obtain ⟨q1, q2⟩ := hq i (by omega)
    have C := cyc_facts h1 h2
    obtain ⟨r1, r2, r3⟩ := cycRow_facts C h1 q1
    have := C.le12
    obtain ⟨j, rfl, hj⟩ := up (show d + 19 + 1 ≤ k by omega)
    rw [impl_field_with_c97.g4, if_pos (by omega), inI_at z (by omega), q2, inI_at z (by rw [C.lenP]; omega), w64_up (by omega)]
    refine Eq.trans (with178_in z (row := cycRow n (q i)) (by omega) _ (cycRow n (q i)).length 0 (j + 1) o (by omega) (by omega) (by omega)) ?_
    rw [r1]
    have hl := (addIn_length (cycRow n (q i)) (rd x i) 0 (cycD n) 0 o).trans ho
    exact with178_g h1 h2 hx hq d (i + 1) (j + 1) _ (by omega) hl (by omega)
theorem image_eq {n : Nat} (h1 : 1 ≤ n) (h2 : n ≤ 16) {x : List Int} (hx : x.length ≤ 100) {a : Int} (ha : -1000 ≤ a ∧ a ≤ 1000) (k : Nat) (hk : 130 ≤ k) (Φ : List Int → A) :
    impl_field_image z k (n : Int) (cycD n : Int) (cycP n) x a Φ = Φ (imT n x a) := by
  obtain ⟨k, rfl⟩ := le_ex (show 2 ≤ k by omega)
  have := le12 h1 h2
  simp only [impl_field_image, impl_field_with_c97, step_succ]
  rw [mkI_at z (by omega)]
  refine Eq.trans (with178_g z h1 h2 hx (q := fun i => (((i : Int) * a) % n).toNat) (fun i hi => ⟨(mod_nat _ h1).2, fun k K0 => ?_⟩) x.length 0 k _ (by omega) (by simp) (by omega)) ?_
  · simp only [impl_field_image_1, step_succ]
    have hm := mul_bd (i := i) (by omega) ha
    rw [Int.mul_comm a, w64_id (by omega) (by omega), around_eq z _ (by omega) (by omega)]
    exact congrArg _ (mod_nat _ h1).1
  · rw [imIn_tab (cyc_facts h1 h2) h1 x _ fun j hj => (mod_nat _ h1).2]
    rfl
end
end Go.Proofs.Ytefdcoeidpbcjaa.F
/- Facts on the printed functions of the first layer: products, with sums that may be great. -/
namespace Go.Proofs.Ytefdcoeidpbcjaa.F
open Go.RowKit Go.Proofs.Ytefdcoeidpbcjaa.R
set_option linter.unusedVariables false
set_option linter.unusedSimpArgs false
/-- The sums stand at T, of at most c numbers each. -/
def Sums (D : Nat) (o : List (Int × Nat)) (T : Nat → Int) (c : Nat) : Prop := o.length = D ∧ ∀ j, j < D → (o.getD j (0, 0)).1 = w64 (T j) ∧ Near (o.getD j (0, 0)).2 (T j) c ∧ (T j).natAbs ≤ 16000000000000000000 * c
theorem Near.more {b : Nat} {T : Int} {c c' : Nat} (h : Near b T c) (e : c ≤ c') : Near b T c' := by
  obtain ⟨n, h1, h2⟩ := h
  exact ⟨n, h1, Nat.le_trans h2 (Nat.mul_le_mul_right _ e)⟩
theorem Sums.more {D : Nat} {o : List (Int × Nat)} {T : Nat → Int} {c c' : Nat} (h : Sums D o T c) (e : c ≤ c') : Sums D o T c' :=
  ⟨h.1, fun j hj => by obtain ⟨h1, h2, h3⟩ := h.2 j hj; exact ⟨h1, h2.more e, Nat.le_trans h3 (Nat.mul_le_mul_left _ e)⟩⟩
theorem Sums.congr {D : Nat} {o : List (Int × Nat)} {T S : Nat → Int} {c : Nat} (h : Sums D o T c) (e : ∀ j, j < D → T j = S j) : Sums D o S c :=
  ⟨h.1, fun j hj => by rw [← e j hj]; exact h.2 j hj⟩
theorem sums_zero (D : Nat) : Sums D (List.replicate D ((0 : Int), (0 : Nat))) (fun _ => 0) 0 :=
  ⟨by simp, fun j hj => by
    have : (List.replicate D ((0 : Int), (0 : Nat))).getD j (0, 0) = (0, 0) := by simp [List.getD_eq_getElem?_getD, hj]
    rw [this]
    exact ⟨rfl, near_zero, by simp⟩⟩
theorem w64_cg (a b : Int) : w64 (w64 a + w64 b) = w64 (a + b) := ((Cg.wrap a).add (Cg.wrap b)).eq
/-- One number more at one place. -/
theorem sumAdd {D : Nat} {o : List (Int × Nat)} {T : Nat → Int} {c : Nat} (h : Sums D o T c) (hc : c ≤ 200000) {m : Nat} (hm : m < D) {x y : Int} (hx : x.natAbs ≤ 1000000000) (hy : y.natAbs ≤ 16000000000) :
    ∃ s, (∀ (A : Type) (z : A) (k : Nat) (Φ : Int → Nat → A), impl_sum_add z (k + 1) (o.getD m (0, 0)).1 (o.getD m (0, 0)).2 x y Φ = Φ (w64 (T m + x * y)) s) ∧
      Sums D (o.set m (w64 (T m + x * y), s)) (fun j => if m = j then T j + x * y else T j) (c + 1) := by
  obtain ⟨h1, h2, h3⟩ := h.2 m hm
  have hxy : (x * y).natAbs ≤ 16000000000000000000 := by
    rw [Int.natAbs_mul]
    exact Nat.mul_le_mul hx hy
  obtain ⟨p, s, e1, e2, e3⟩ := near_add h2 (x := x) (y := y) (by omega) (by omega) (by omega) (by omega) (by omega)
  refine ⟨s, fun A z k Φ => ?_, by rw [List.length_set]; exact h.1, fun j hj => ?_⟩
  · simp only [impl_sum_add, step_succ]
    rw [e1]
    simp only [optN]
    rw [e2]
    simp only []
    rw [h1, w64_cg]
  · by_cases e : m = j
    · subst e
      have : (o.set m (w64 (T m + x * y), s)).getD m (0, 0) = (w64 (T m + x * y), s) := by
        simp [List.getD_eq_getElem?_getD, List.getElem?_set, h.1, hm]
      rw [this]
      dsimp only
      rw [if_pos rfl]
      exact ⟨rfl, e3, by omega⟩
    · have : (o.set m (w64 (T m + x * y), s)).getD j (0, 0) = o.getD j (0, 0) := by
        simp [List.getD_eq_getElem?_getD, List.getElem?_set, e]
      rw [this]
      dsimp only
      rw [if_neg e]
      obtain ⟨g1, g2, g3⟩ := h.2 j hj
      exact ⟨g1, g2.more (by omega), by omega⟩
/-- A row of a power, times a product. -/
theorem prod15 {D : Nat} {row : List Int} (hr : row.length = D) (hD : D ≤ 12) (hrow : ∀ j : Nat, j < D → -1 ≤ rd row j ∧ rd row j ≤ 1) {x y : Int} (hx : x.natAbs ≤ 1000000000) (hy : y.natAbs ≤ 16000000000) :
    ∀ (d m : Nat) (o : List (Int × Nat)) (T : Nat → Int) (c : Nat), m + d = D → c + d ≤ 200000 → Sums D o T c →
    ∃ o', (∀ (A : Type) (z : A) (k : Nat) (K0 : List (Int × Nat) → A), d + 3 ≤ k → impl_field_product.g15 z k x y row (row.length : Int) (m : Int) o K0 = K0 o') ∧ Sums D o' (fun j => if m ≤ j then T j + rd row j * x * y else T j) (c + d)
  | 0, m, o, T, c, hm, hc, hs => by
    refine ⟨o, fun A z k K0 hk => ?_, hs.congr fun j hj => by rw [if_neg (by omega)]⟩
    obtain ⟨k, rfl, _⟩ := up (show 2 + 1 ≤ k by omega)
    rw [impl_field_product.g15, if_neg (by omega)]
  | d + 1, m, o, T, c, hm, hc, hs => by
    have hmD : m < D := by omega
    have hro := hrow m hmD
    by_cases h0 : rd row m = 0
    · obtain ⟨o', h1, h2⟩ := prod15 hr hD hrow hx hy d (m + 1) o T c (by omega) (by omega) hs
      refine ⟨o', fun A z k K0 hk => ?_, (h2.more (by omega)).congr fun j hj => ?_⟩
      · obtain ⟨k, rfl, _⟩ := up (show d + 3 + 1 ≤ k by omega)
        have h0' : row.getD m 0 = 0 := h0
        rw [impl_field_product.g15, if_pos (by omega), inI_at z (by omega), if_neg (by simpa using h0'), w64_up (by omega)]
        exact h1 A z k K0 (by omega)
      · by_cases c1 : m + 1 ≤ j
        · rw [if_pos c1, if_pos (by omega)]
        · rw [if_neg c1]
          by_cases c2 : m ≤ j
          · have : j = m := by omega
            subst this
            rw [if_pos c2, h0, Int.zero_mul, Int.zero_mul, Int.add_zero]
          · rw [if_neg c2]
    · have hnx : (rd row m * x).natAbs ≤ 1000000000 := by
        rcases (show rd row m = 1 ∨ rd row m = -1 by omega) with e | e <;> rw [e] <;> omega
      obtain ⟨s, e1, e2⟩ := sumAdd hs (by omega) hmD hnx hy
      obtain ⟨o', h1, h2⟩ := prod15 hr hD hrow hx hy d (m + 1) _ _ (c + 1) (by omega) (by omega) e2
      refine ⟨o', fun A z k K0 hk => ?_, (h2.more (by omega)).congr fun j hj => ?_⟩
      · obtain ⟨k, rfl, _⟩ := up (show d + 3 + 1 ≤ k by omega)
        obtain ⟨i, rfl, _⟩ := up (show d + 2 + 1 ≤ k by omega)
        have h0' : row.getD m 0 ≠ 0 := h0
        have hw : w64 (row.getD m 0 * x) = rd row m * x := w64_id (x := rd row m * x) (by omega) (by omega)
        rw [impl_field_product.g15, if_pos (by omega), inI_at z (by omega), if_pos h0', inI_at z (by rw [hs.1]; omega), hw, e1, w64_up (by omega)]
        exact h1 A z (i + 1) K0 (by omega)
      · by_cases c1 : m + 1 ≤ j
        · rw [if_pos c1, if_neg (show ¬ m = j by omega), if_pos (show m ≤ j by omega)]
        · rw [if_neg c1]
          by_cases c2 : m ≤ j
          · have : j = m := by omega
            subst this
            rw [if_pos rfl, if_pos c2]
          · rw [if_neg (show ¬ m = j by omega), if_neg c2]
theorem prod7 {n : Nat} (h1 : 1 ≤ n) (h2 : n ≤ 16) {i : Nat} (hi : i ≤ 1000) {x : Int} (hx : x.natAbs ≤ 1000000000) {y : List Int} (hy : ∀ q : Nat, q < y.length → (rd y q).natAbs ≤ 16000000000) (hyl : y.length ≤ 1000) :
    ∀ (d m : Nat) (o : List (Int × Nat)) (T : Nat → Int) (c : Nat), m + d = y.length → c + 12 * d ≤ 200000 → Sums (cycD n) o T c →
    ∃ o', (∀ (A : Type) (z : A) (k : Nat) (K0 : List (Int × Nat) → A), d + 20 ≤ k → impl_field_product.g7 z k (n : Int) (cycP n) (i : Int) x y (y.length : Int) (m : Int) o K0 = K0 o') ∧
      Sums (cycD n) o' (fun j => T j + x * sumF m d (fun q => rd y q * cycW n j (i + q))) (c + 12 * d)
  | 0, m, o, T, c, hm, hc, hs => by
    refine ⟨o, fun A z k K0 hk => ?_, hs.congr fun j hj => by simp [sumF]⟩
    obtain ⟨k, rfl, _⟩ := up (show 19 + 1 ≤ k by omega)
    rw [impl_field_product.g7, if_neg (by omega)]
  | d + 1, m, o, T, c, hm, hc, hs => by
    have hml : m < y.length := by omega
    have C := cyc_facts h1 h2
    have hlt : (i + m) % n < n := Nat.mod_lt _ (by omega)
    obtain ⟨r1, r2, r3⟩ := cycRow_facts C h1 hlt
    have skip : x * rd y m = 0 → (∀ (A : Type) (z : A) (k : Nat) (K0 : List (Int × Nat) → A), d + 20 + 1 ≤ k + 1 → impl_field_product.g7 z (k + 1) (n : Int) (cycP n) (i : Int) x y (y.length : Int) (m : Int) o K0 = impl_field_product.g7 z k (n : Int) (cycP n) (i : Int) x y (y.length : Int) ((m + 1 : Nat) : Int) o K0) →
        ∃ o', (∀ (A : Type) (z : A) (k : Nat) (K0 : List (Int × Nat) → A), d + 1 + 20 ≤ k → impl_field_product.g7 z k (n : Int) (cycP n) (i : Int) x y (y.length : Int) (m : Int) o K0 = K0 o') ∧
          Sums (cycD n) o' (fun j => T j + x * sumF m (d + 1) (fun q => rd y q * cycW n j (i + q))) (c + 12 * (d + 1)) := by
      intro h0 hstep
      obtain ⟨o', g1, g2⟩ := prod7 h1 h2 hi hx hy hyl d (m + 1) o T c (by omega) (by omega) hs
      refine ⟨o', fun A z k K0 hk => ?_, (g2.more (by omega)).congr fun j hj => ?_⟩
      · obtain ⟨k, rfl, _⟩ := up (show d + 20 + 1 ≤ k by omega)
        rw [hstep A z k K0 (by omega)]
        exact g1 A z k K0 (by omega)
      · rw [sumF, Int.mul_add, ← Int.mul_assoc x, h0, Int.zero_mul, Int.zero_add]
    by_cases hx0 : x = 0
    · refine skip (by rw [hx0, Int.zero_mul]) fun A z k K0 hk => ?_
      rw [impl_field_product.g7, if_pos (by omega), inI_at z hml, if_pos hx0, w64_up (by omega)]
    by_cases hy0 : rd y m = 0
    · refine skip (by rw [hy0, Int.mul_zero]) fun A z k K0 hk => ?_
      have hy0' : y.getD m 0 = 0 := hy0
      rw [impl_field_product.g7, if_pos (by omega), inI_at z hml, if_neg hx0, if_pos hy0', w64_up (by omega)]
    obtain ⟨o1, e1, e2⟩ := prod15 (row := cycRow n ((i + m) % n)) r1 C.le12 (fun j hj => by
      rw [rd_nat _ _ (by omega)]
      exact r2 _ (List.getElem_mem _)) hx (hy m hml) (cycD n) 0 o T c (by omega) (by have := C.le12; omega) hs
    obtain ⟨o', g1, g2⟩ := prod7 h1 h2 hi hx hy hyl d (m + 1) o1 _ (c + 12) (by omega) (by omega) (e2.more (by have := C.le12; omega))
    refine ⟨o', fun A z k K0 hk => ?_, (g2.more (by omega)).congr fun j hj => ?_⟩
    · obtain ⟨k, rfl, _⟩ := up (show d + 20 + 1 ≤ k by omega)
      have hy0' : ¬ y.getD m 0 = 0 := hy0
      have hq : Int.tmod (w64 ((i : Int) + (m : Int))) (n : Int) = (((i + m) % n : Nat) : Int) := by
        rw [w64_id (by omega) (by omega), Int.tmod_eq_emod_of_nonneg (by omega), Int.natCast_emod, Int.natCast_add]
      rw [impl_field_product.g7, if_pos (by omega), inI_at z hml, if_neg hx0, if_neg hy0', gd_ok z (by omega), hq, inI_at z (by rw [C.lenP]; exact hlt), w64_up (by omega)]
      refine Eq.trans (e1 A z k _ (by have := C.le12; omega)) ?_
      exact g1 A z k K0 (by omega)
    · rw [if_pos (Nat.zero_le _), sumF, r3 j, cycW_mod, Int.mul_add, Int.add_assoc]
      congr 2
      rw [Int.mul_comm (cycW n j (i + m)) x, Int.mul_assoc, Int.mul_comm (cycW n j (i + m))]
theorem prod1 {n : Nat} (h1 : 1 ≤ n) (h2 : n ≤ 16) {x y : List Int} (hx : ∀ q : Nat, q < x.length → (rd x q).natAbs ≤ 1000000000) (hxl : x.length ≤ 100) (hy : ∀ q : Nat, q < y.length → (rd y q).natAbs ≤ 16000000000) (hyl : y.length ≤ 100) :
    ∀ (d i : Nat) (o : List (Int × Nat)) (T : Nat → Int) (c : Nat), i + d = x.length → c + 1200 * d ≤ 200000 → Sums (cycD n) o T c →
    ∃ o', (∀ (A : Type) (z : A) (k : Nat) (K0 : List (Int × Nat) → A), d + 150 ≤ k → impl_field_product.g1 z k (n : Int) (cycP n) y x (x.length : Int) (i : Int) o K0 = K0 o') ∧
      Sums (cycD n) o' (fun j => T j + sumF i d (fun p => rd x p * sumF 0 y.length (fun q => rd y q * cycW n j (p + q)))) (c + 1200 * d)
  | 0, i, o, T, c, hm, hc, hs => by
    refine ⟨o, fun A z k K0 hk => ?_, hs.congr fun j hj => by simp [sumF]⟩
    obtain ⟨k, rfl, _⟩ := up (show 149 + 1 ≤ k by omega)
    rw [impl_field_product.g1, if_neg (by omega)]
  | d + 1, i, o, T, c, hm, hc, hs => by
    have hil : i < x.length := by omega
    obtain ⟨o1, e1, e2⟩ := prod7 h1 h2 (i := i) (by omega) (hx i hil) hy (by omega) y.length 0 o T c (by omega) (by omega) hs
    obtain ⟨o', g1, g2⟩ := prod1 h1 h2 hx hxl hy hyl d (i + 1) o1 _ (c + 1200) (by omega) (by omega) (e2.more (by omega))
    refine ⟨o', fun A z k K0 hk => ?_, (g2.more (by omega)).congr fun j hj => ?_⟩
    · obtain ⟨k, rfl, _⟩ := up (show d + 150 + 1 ≤ k by omega)
      rw [impl_field_product.g1, if_pos (by omega), inI_at z hil, w64_up (by omega)]
      refine Eq.trans (e1 A z k _ (by omega)) ?_
      exact g1 A z k K0 (by omega)
    · rw [sumF, Int.add_assoc]
/-- What sums are told as. -/
theorem values4 {D : Nat} {o : List (Int × Nat)} {T : Nat → Int} {c : Nat} (h : Sums D o T c) (hc : c ≤ 400000) (hD : D ≤ 1000) {A : Type} (z : A) {K0 : Bool → List Int → A} : ∀ (d i k : Nat) (ok : Bool) (l : List Int), i + d = D → l.length = i → d + 4 ≤ k →
    impl_values.g4 z k o ok (o.length : Int) (i : Int) l K0 = K0 (ok && ((List.range' i d).all fun j => fitsB (T j))) (l ++ (List.range' i d).map fun j => w64 (T j))
  | d, i, 0, ok, l, _, _, hk => absurd hk (by omega)
  | 0, i, k + 1, ok, l, hi, hl, hk => by
    rw [impl_values.g4, if_neg (by rw [h.1]; omega)]
    simp
  | d + 1, i, k + 1, ok, l, hi, hl, hk => by
    obtain ⟨k, rfl, _⟩ := up (show d + 3 + 1 ≤ k by omega)
    obtain ⟨k, rfl, _⟩ := up (show d + 2 + 1 ≤ k by omega)
    have hol := h.1
    obtain ⟨g1, g2, g3⟩ := h.2 i (by omega)
    have hf := near_fits g2 hc
    have hv : ∀ Ψ : Int → Bool → A, impl_sum_value z (k + 1 + 1) (o.getD i (0, 0)).1 (o.getD i (0, 0)).2 Ψ = Ψ (w64 (T i)) (fitsB (T i)) := by
      intro Ψ
      simp only [impl_sum_value, step_succ]
      rw [within_eq, g1, ← hf, w64_wrap]
      cases decide (-1000000000 ≤ wrap64 (T i) ∧ wrap64 (T i) ≤ 1000000000)
      · rfl
      · cases (FloatKind.format .f64).order (o.getD i (0, 0)).2 4876203697187506176 == some .lt <;> rfl
    rw [impl_values.g4, if_pos (by rw [hol]; omega), inI_at z (by omega), hv, apI_ok z (by omega), w64_up (by omega), List.range'_succ, List.all_cons, List.map_cons]
    cases ok with
    | true =>
      rw [cond_true, values4 h hc hD z d (i + 1) (k + 1 + 1) _ _ (by omega) (by simp [hl]) (by omega)]
      simp
    | false =>
      rw [cond_false, values4 h hc hD z d (i + 1) (k + 1 + 1) _ _ (by omega) (by simp [hl]) (by omega)]
      simp
theorem fits_small (T : Int) : fitsB T = decide (-1000000000 ≤ T ∧ T ≤ 1000000000) := by
  unfold fitsB
  rw [Bool.eq_iff_iff, decide_eq_true_eq, decide_eq_true_eq]
  omega
theorem times_eq {n : Nat} (h1 : 1 ≤ n) (h2 : n ≤ 16) {x y : List Int} (hx : within 1000000000 x) (hxl : x.length ≤ 100) (hy : within 16000000000 y) (hyl : y.length ≤ 100) {A : Type} (z : A) (k : Nat) (hk : 260 ≤ k) (Φ : List Int → Bool → A) :
    impl_field_times z k (n : Int) (cycD n : Int) (cycP n) x y Φ = Φ (tab (cycD n) fun m => w64 (bil n x y m)) (okB n x y) := by
  have C := cyc_facts h1 h2
  have hD := C.le12
  obtain ⟨o', g1, g2⟩ := prod1 h1 h2 (x := x) (y := y) (fun q hq => by have := hx q hq; omega) hxl (fun q hq => by have := hy q hq; omega) hyl x.length 0 _ _ 0 (by omega) (by omega) (sums_zero (cycD n))
  obtain ⟨k, rfl⟩ := le_ex (show 2 ≤ k by omega)
  simp only [impl_field_times, impl_field_product, impl_values, step_succ]
  rw [mkI_at z (by omega)]
  refine Eq.trans (g1 A z (k) _ (by omega)) ?_
  refine Eq.trans (values4 g2 (by omega) (by omega) z (cycD n) 0 k true [] (by omega) rfl (by omega)) ?_
  rw [Bool.true_and, List.nil_append, ← List.range_eq_range']
  have e1 : (List.range (cycD n)).map (fun j => w64 (0 + sumF 0 x.length (fun p => rd x p * sumF 0 y.length (fun q => rd y q * cycW n j (p + q))))) = tab (cycD n) fun m => w64 (bil n x y m) :=
    List.map_congr_left fun j _ => by rw [Int.zero_add]; rfl
  have e2 : ((List.range (cycD n)).all fun j => fitsB (0 + sumF 0 x.length (fun p => rd x p * sumF 0 y.length (fun q => rd y q * cycW n j (p + q))))) = okB n x y := by
    rw [Bool.eq_iff_iff]
    unfold okB
    rw [smallL_tab, List.all_eq_true]
    constructor
    · intro h m hm
      have := h m (List.mem_range.2 hm)
      rw [fits_small, Int.zero_add, decide_eq_true_eq] at this
      exact this
    · intro h m hm
      rw [fits_small, Int.zero_add, decide_eq_true_eq]
      exact h m (List.mem_range.1 hm)
  rw [← e1, ← e2]
end Go.Proofs.Ytefdcoeidpbcjaa.F
/- Facts on the functions of the first layer, whole: images, conjugates, products, sums. -/
namespace Go.Proofs.Ytefdcoeidpbcjaa.F
open Go.RowKit Go.Proofs.Ytefdcoeidpbcjaa.R
set_option linter.unusedVariables false
set_option linter.unusedSimpArgs false
def told3 (n : Int) (l : List Int) : Int × List Int × Int := if smallL l = true then (n, l, 0) else (0, [], 3)
def gal3 (n : Int) (x : List Int) (a : Int) : Int × List Int × Int := if isC n x = true then (if (1 ≤ a ∧ a ≤ n) ∧ Int.gcd a n = 1 then told3 n (imT n.toNat x a) else (0, [], 2)) else (0, [], 1)
def bar3 (n : Int) (x : List Int) : Int × List Int × Int := if isC n x = true then told3 n (imT n.toNat x (-1)) else (0, [], 1)
def mul3 (m : Int) (x : List Int) (n : Int) (y : List Int) : Int × List Int × Int := if codeC m x n y ≠ 0 then (0, [], codeC m x n y) else match mulO m.toNat x y with
  | some l => (m, l, 0)
  | none => (0, [], 3)
def plusL (x y : List Int) (k : Int) : List Int := addIn y k 0 y.length 0 x
def add3 (m : Int) (x : List Int) (n : Int) (y : List Int) (k : Int) : Int × List Int × Int := if codeC m x n y ≠ 0 then (0, [], codeC m x n y) else if -1000 ≤ k ∧ k ≤ 1000 then told3 m (plusL x y k) else (0, [], 2)
def real2 (n : Int) (x : List Int) : Bool × Int := if isC n x = true then (decide (imT n.toNat x (-1) = x), 0) else (false, 1)
theorem imT_len (n : Nat) (x : List Int) (a : Int) : (imT n x a).length = cycD n := tab_length _ _
theorem isC_x {n : Int} {x : List Int} (h : isC n x = true) : ∃ m : Nat, n = m ∧ 1 ≤ m ∧ m ≤ 16 ∧ x.length = cycD m ∧ x.length ≤ 12 ∧ GoodZ m x := by
  obtain ⟨⟨m, h1, h2, h3, h4⟩, h5⟩ := isC_len h
  have := le12 h2 h3
  exact ⟨m, h1, h2, h3, h4, by omega, h4, smallL_within.1 h5⟩
theorem codeC_zero {m n : Int} {x y : List Int} (h : codeC m x n y = 0) : isC m x = true ∧ isC n y = true ∧ m = n := by
  unfold codeC at h
  cases h1 : isC m x <;> cases h2 : isC n y <;> simp [h1, h2] at h
  exact ⟨rfl, rfl, h⟩
section
variable {A : Type} (z : A)
theorem cycloOf3_eq {l : List Int} (hl : l.length ≤ 1000000) (n : Int) (k : Nat) (hk : l.length + 9 ≤ k) (Φ : Int → List Int → Int → A) : impl_cycloOf z k n l Φ = Φ (told3 n l).1 (told3 n l).2.1 (told3 n l).2.2 := by
  rw [cycloOf_eq z hl n k hk]
  unfold told3
  cases smallL l <;> rfl
theorem galoisImage_eq (n : Int) {x : List Int} (hx : x.length ≤ 1000000) (a : Int) (k : Nat) (hk : x.length + 1100 ≤ k) (Φ : Int → List Int → Int → A) : impl_GaloisImage z k n x a Φ = Φ (gal3 n x a).1 (gal3 n x a).2.1 (gal3 n x a).2.2 := by
  obtain ⟨k, rfl, hk⟩ := up (show x.length + 1099 + 1 ≤ k by omega)
  simp only [impl_GaloisImage, step_succ]
  rw [isCyclo_eq z n hx k (by omega)]
  unfold gal3
  cases h : isC n x with
  | false => rfl
  | true =>
    obtain ⟨m, rfl, h1, h2, h3, h4, h5⟩ := isC_x h
    rw [Bool.not_true, cond_false, if_pos rfl, isPrimeTo_eq z h1 (by omega) a k (by omega)]
    by_cases c : (1 ≤ a ∧ a ≤ (m : Int)) ∧ Int.gcd a m = 1
    · rw [decide_eq_true c, Bool.not_true, cond_false, if_pos c, field_eq z h1 h2 k (by omega), image_eq z h1 h2 (by omega) (by omega) k (by omega), cycloOf3_eq z (by rw [imT_len]; omega) _ k (by rw [imT_len]; omega), Int.toNat_natCast]
    · rw [decide_eq_false c, Bool.not_false, cond_true, if_neg c]
theorem multiply_eq (m n : Int) {x y : List Int} (hx : x.length ≤ 1000000) (hy : y.length ≤ 1000000) (k : Nat) (hk : x.length + y.length + 400 ≤ k) (Φ : Int → List Int → Int → A) : impl_MultiplyCyclos z k m x n y Φ = Φ (mul3 m x n y).1 (mul3 m x n y).2.1 (mul3 m x n y).2.2 := by
  obtain ⟨k, rfl, hk⟩ := up (show x.length + y.length + 399 + 1 ≤ k by omega)
  simp only [impl_MultiplyCyclos, step_succ]
  rw [twoCode_eq z m n hx hy k (by omega)]
  unfold mul3
  by_cases h : codeC m x n y = 0
  · rw [if_neg (by simpa using h), if_neg (by simpa using h)]
    obtain ⟨c1, c2, rfl⟩ := codeC_zero h
    obtain ⟨j, rfl, h1, h2, h3, h4, h5⟩ := isC_x c1
    obtain ⟨j', e, _, _, g3, g4, g5⟩ := isC_x c2
    have : j = j' := by omega
    subst this
    rw [field_eq z h1 h2 k (by omega), times_eq h1 h2 h5.2 (by omega) (fun q hq => by have := g5.2 q hq; omega) (by omega) z k (by omega), Int.toNat_natCast]
    unfold mulO
    cases ho : okB j x y with
    | false => rfl
    | true =>
      have hb := smallL_tab.1 ho
      have e : (tab (cycD j) fun m => w64 (bil j x y m)) = tab (cycD j) (bil j x y) := tab_congr fun m hm => by have := hb m hm; exact w64_id (by omega) (by omega)
      rw [Bool.not_true, cond_false, e, cycloOf3_eq z (by rw [tab_length]; omega) _ k (by rw [tab_length]; omega), if_pos rfl]
      unfold told3
      rw [if_pos (show smallL (tab (cycD j) (bil j x y)) = true from ho)]
  · rw [if_pos (by simpa using h), if_pos (by simpa using h)]
end
end Go.Proofs.Ytefdcoeidpbcjaa.F
/- Facts on the functions of the first layer, whole: lifts, and fields within fields. -/
namespace Go.Proofs.Ytefdcoeidpbcjaa.F
open Go.RowKit Go.Proofs.Ytefdcoeidpbcjaa.R
set_option linter.unusedVariables false
set_option linter.unusedSimpArgs false
def liftT (m s : Nat) (x : List Int) : List Int := tab (cycD m) fun j => w64 (galQ m x (fun i => i * s % m) j)
def lift3 (n : Int) (x : List Int) (m : Int) : Int × List Int × Int := if isC n x = true then (if 1 ≤ m ∧ m ≤ 16 then (if m.toNat % n.toNat = 0 then told3 m (liftT m.toNat (m.toNat / n.toNat) x) else (0, [], 2)) else (0, [], 2)) else (0, [], 1)
def liftIn (s : Nat) (x : List Int) : Nat → Nat → List Int → List Int
  | 0, _, L => L
  | d + 1, i, L => liftIn s x d (i + 1) (L.set (i * s) (rd x i))
theorem liftIn_length (s : Nat) (x : List Int) : ∀ (d i : Nat) (L : List Int), (liftIn s x d i L).length = L.length
  | 0, i, L => rfl
  | d + 1, i, L => by unfold liftIn; rw [liftIn_length s x d, List.length_set]
theorem liftIn_facts {s : Nat} (hs : 1 ≤ s) (x : List Int) (hx : ∀ q : Nat, q < x.length → (rd x q).natAbs ≤ 1000000000) : ∀ (d i : Nat) (L : List Int), i + d = x.length → x.length * s ≤ L.length → (∀ j, i ≤ j → j < x.length → rd L (j * s : Nat) = 0) → Wrapped L →
    Wrapped (liftIn s x d i L) ∧ ∀ w : Nat → Int, dot (liftIn s x d i L) w = dot L w + sumF i d (fun p => rd x p * w (p * s))
  | 0, i, L, hi, hl, hz, hw => ⟨hw, fun w => by simp [liftIn, sumF]⟩
  | d + 1, i, L, hi, hl, hz, hw => by
    have hq : i * s < L.length := Nat.lt_of_lt_of_le (Nat.mul_lt_mul_of_pos_right (show i < x.length by omega) hs) hl
    have hxi := hx i (by omega)
    have hv : rd x i = wrap64 (rd x i) := (wrap_id (by omega) (by omega)).symm
    obtain ⟨g1, g2⟩ := liftIn_facts hs x hx d (i + 1) (L.set (i * s) (rd x i)) (by omega) (by rw [List.length_set]; exact hl) (fun j h1 h2 => by
      rw [rd_set _ _ _ _ (Nat.lt_of_lt_of_le (Nat.mul_lt_mul_of_pos_right h2 hs) hl), if_neg (fun e => by have := Nat.eq_of_mul_eq_mul_right hs e; omega)]
      exact hz j (by omega) h2) (by rw [hv]; exact hw.set _ _)
    refine ⟨g1, fun w => ?_⟩
    show dot (liftIn s x d (i + 1) (L.set (i * s) (rd x i))) w = _
    rw [g2 w, dot_set _ _ _ _ hq, hz i (Nat.le_refl _) (by omega), sumF, Int.sub_zero, Int.add_assoc]
section
variable {A : Type} (z : A)
theorem lift_mod {m n : Nat} (h1 : 1 ≤ n) (hm : m ≤ 16) (hd : m % n = 0) {i : Nat} (hi : i < n) : i * (m / n) ≤ m ∧ (1 ≤ m → 1 ≤ m / n) := by
  have e := Nat.div_add_mod m n
  rw [hd, Nat.add_zero] at e
  refine ⟨?_, fun h => ?_⟩
  · have := Nat.mul_le_mul_right (m / n) (Nat.le_of_lt hi)
    omega
  · rcases Nat.eq_zero_or_pos (m / n) with h0 | h0
    · rw [h0] at e; omega
    · exact h0
theorem tdiv_nat (m n : Nat) : Int.tdiv (m : Int) (n : Int) = ((m / n : Nat) : Int) := by rw [Int.tdiv_eq_ediv_of_nonneg (by omega)]; rfl
theorem tmod_nat (m n : Nat) : Int.tmod (m : Int) (n : Int) = ((m % n : Nat) : Int) := by rw [Int.tmod_eq_emod_of_nonneg (by omega)]; rfl
end
end Go.Proofs.Ytefdcoeidpbcjaa.F
/- Facts on the functions of the first layer, whole: what lies in a field. -/
namespace Go.Proofs.Ytefdcoeidpbcjaa.F
open Go.RowKit Go.Proofs.Ytefdcoeidpbcjaa.R
set_option linter.unusedVariables false
set_option linter.unusedSimpArgs false
def allF (n m : Nat) (x : List Int) : Nat → Nat → Bool
  | 0, _ => true
  | d + 1, a => if (a - 1) % m = 0 ∧ Nat.gcd a n = 1 then (if imT n x (a : Int) = x then allF n m x d (a + 1) else false) else allF n m x d (a + 1)
def inF (n : Int) (x : List Int) (m : Int) : Bool × Int := if isC n x = true then (if 1 ≤ m ∧ n.toNat % m.toNat = 0 then (allF n.toNat m.toNat x n.toNat 1, 0) else (false, 2)) else (false, 1)
theorem one_mod {a m : Nat} (ha : 1 ≤ a) : (a - 1) % m = 0 ↔ a % m = 1 % m := by
  obtain ⟨b, rfl⟩ : ∃ b, a = b + 1 := ⟨a - 1, by omega⟩
  rw [Nat.add_sub_cancel]
  constructor
  · intro h; rw [Nat.add_mod, h, Nat.zero_add, Nat.mod_mod]
  · intro h
    have h1 : ((b + 1) - 1) % m = 0 := Nat.sub_mod_eq_zero_of_mod_eq h
    simpa using h1
section
variable {A : Type} (z : A)
end
end Go.Proofs.Ytefdcoeidpbcjaa.F
/- Facts on the functions of the first layer, whole: what is drawn. -/
namespace Go.Proofs.Ytefdcoeidpbcjaa.F
open Go.RowKit Go.Proofs.Ytefdcoeidpbcjaa.R
set_option linter.unusedVariables false
set_option linter.unusedSimpArgs false
def Src (c : List Int) (i : Int) : Prop := c.length ≤ 4096 ∧ (∀ x ∈ c, 0 ≤ x ∧ x ≤ 255) ∧ 0 ≤ i ∧ i ≤ (c.length : Int)
theorem mask_bd (y : Int) : 0 ≤ wu64 ((BitVec.ofInt 64 y &&& BitVec.ofInt 64 1073741823).toNat : Int) ∧ wu64 ((BitVec.ofInt 64 y &&& BitVec.ofInt 64 1073741823).toNat : Int) ≤ 1073741823 := by
  have h : (BitVec.ofInt 64 y &&& BitVec.ofInt 64 1073741823).toNat ≤ 1073741823 := by
    rw [BitVec.toNat_and]
    exact Nat.le_trans Nat.and_le_right (by decide)
  generalize (BitVec.ofInt 64 y &&& BitVec.ofInt 64 1073741823).toNat = q at h
  rw [show wu64 (q : Int) = q by rw [wu64_def]; omega]
  omega
def stir (h : Int) : Int := wu64 (wu64 (h * 6364136223846793005) + 1442695040888963407)
def pull (h : Int) : Int := wu64 ((BitVec.ofInt 64 ((stir h).fdiv (2 ^ (31))) &&& BitVec.ofInt 64 1073741823).toNat : Int)
section
variable {A : Type} (z : A)
theorem next_eq {c : List Int} {i : Int} (hs : Src c i) (h n : Int) : ∃ i' h' v, (Src c i' ∧ 0 ≤ v ∧ (1 ≤ n → v < n) ∧ (n < 1 → v = 0)) ∧ ∀ k, 1 ≤ k → ∀ Φ : List Int → Int → Int → Int → A, spec_l01Next z k c i h n Φ = Φ c i' h' v := by
  obtain ⟨hc, hb, h0, h1⟩ := hs
  by_cases e : n < 1
  · refine ⟨i, h, 0, ⟨⟨hc, hb, h0, h1⟩, Int.le_refl _, by omega, fun _ => rfl⟩, fun k hk Φ => ?_⟩
    obtain ⟨k, rfl⟩ := le_ex hk
    simp only [spec_l01Next, step_succ]
    rw [if_pos e]
  · obtain ⟨m0, m1⟩ := mask_bd ((stir h).fdiv (2 ^ (31)))
    have m0 : 0 ≤ pull h := m0
    have m1 : pull h ≤ 1073741823 := m1
    by_cases e2 : i < (c.length : Int)
    · obtain ⟨i, rfl⟩ := Int.eq_ofNat_of_zero_le h0
      have hi : i < c.length := by omega
      have hr : 0 ≤ c.getD i 0 ∧ c.getD i 0 ≤ 255 := by rw [getD_at hi]; exact hb _ (List.getElem_mem hi)
      refine ⟨((i + 1 : Nat) : Int), stir h, (w64 (w64 (pull h) + w64 (c.getD i 0))).tmod n, ⟨⟨hc, hb, by omega, by omega⟩, ?_, fun hn => Int.tmod_lt_of_pos _ (by omega), fun hn => absurd hn e⟩, fun k hk Φ => ?_⟩
      · refine Int.tmod_nonneg _ ?_
        rw [w64_id (x := pull h) (by omega) (by omega), w64_id (x := c.getD i 0) (by omega) (by omega), w64_id (by omega) (by omega)]
        omega
      · obtain ⟨k, rfl⟩ := le_ex hk
        simp only [spec_l01Next, step_succ]
        rw [if_neg e, if_pos e2, inI_at z hi, gd_ok z (by omega), w64_up (by omega)]
        rfl
    · refine ⟨i, stir h, (w64 (pull h)).tmod n, ⟨⟨hc, hb, h0, h1⟩, ?_, fun hn => Int.tmod_lt_of_pos _ (by omega), fun hn => absurd hn e⟩, fun k hk Φ => ?_⟩
      · refine Int.tmod_nonneg _ ?_
        rw [w64_id (by omega) (by omega)]
        omega
      · obtain ⟨k, rfl⟩ := le_ex hk
        simp only [spec_l01Next, step_succ]
        rw [if_neg e, if_neg e2, gd_ok z (by omega)]
        rfl
theorem pick_eq {c : List Int} {i : Int} (hs : Src c i) (h : Int) (l : List Int) (hl : l ≠ []) : ∃ i' h' v, (Src c i' ∧ v ∈ l) ∧ ∀ k, 2 ≤ k → ∀ Φ : List Int → Int → Int → Int → A, spec_l01Pick z k c i h l Φ = Φ c i' h' v := by
  have hp : 0 < l.length := List.length_pos_iff.2 hl
  obtain ⟨i', h', v, ⟨s, v0, v1, _⟩, e⟩ := next_eq z hs h (l.length : Int)
  have v2 := v1 (by omega)
  obtain ⟨j, rfl⟩ := Int.eq_ofNat_of_zero_le v0
  have hj : j < l.length := by omega
  refine ⟨i', h', l.getD j 0, ⟨s, by rw [getD_at hj]; exact List.getElem_mem _⟩, fun k hk Φ => ?_⟩
  obtain ⟨k, rfl⟩ := le_ex hk
  simp only [spec_l01Pick, step_succ]
  rw [e _ (by omega), inI_at z hj]
theorem from_g {c : List Int} (hc : c.length ≤ 4096) : ∀ (d i : Nat) (h : Int), i + d = c.length → ∃ h', ∀ k, d + 1 ≤ k → ∀ K0 : Int → A, spec_l01From.g4 z k c (i : Int) h K0 = K0 h'
  | 0, i, h, hi => ⟨h, fun k hk K0 => by
    obtain ⟨k, rfl⟩ := le_ex hk
    rw [spec_l01From.g4, if_neg (by omega)]⟩
  | d + 1, i, h, hi => by
    obtain ⟨h', e⟩ := from_g hc d (i + 1) (wu64 ((wu64 ((wu64 (h * 1099511628211)) + (wu64 (c.getD i 0)))) + 131)) (by omega)
    refine ⟨h', fun k hk K0 => ?_⟩
    obtain ⟨k, rfl, hk⟩ := up hk
    rw [spec_l01From.g4, if_pos (by omega), if_pos (by omega), inI_at z (by omega), w64_up (by omega), e k (by omega)]
theorem from_eq {c : List Int} (hc : c.length ≤ 4096) (hb : ∀ x ∈ c, 0 ≤ x ∧ x ≤ 255) : ∃ h i, Src c i ∧ ∀ k, 4098 ≤ k → ∀ Φ : List Int → Int → Int → A, spec_l01From z k c Φ = Φ c i h := by
  obtain ⟨h, e⟩ := from_g z hc c.length 0 (wu64 (13131 + (wu64 (c.length : Int)))) (by omega)
  refine ⟨h, 0, ⟨hc, hb, by omega, by omega⟩, fun k hk Φ => ?_⟩
  obtain ⟨k, rfl⟩ := le_ex (show 1 ≤ k by omega)
  simp only [spec_l01From, step_succ]
  exact e _ (by omega) _
theorem drawPart_eq {c : List Int} {i : Int} (hs : Src c i) (h : Int) {p : Int} (hp : 0 ≤ p ∧ p ≤ 1000000000) : ∃ i' h' v, (Src c i' ∧ -p ≤ v ∧ v ≤ p) ∧ ∀ k, 2 ≤ k → ∀ Φ : List Int → Int → Int → Int → A, spec_l01DrawPart z k c i h p Φ = Φ c i' h' v := by
  obtain ⟨i1, h1, v1, ⟨s1, v0, v2, _⟩, e1⟩ := next_eq z hs h (2 * p + 1)
  have v2 := v2 (by omega)
  refine ⟨i1, h1, v1 - p, ⟨s1, by omega, by omega⟩, fun k hk Φ => ?_⟩
  obtain ⟨k, rfl⟩ := le_ex hk
  simp only [spec_l01DrawPart, step_succ]
  rw [w64_id (x := 2 * p) (by omega) (by omega), w64_id (x := 2 * p + 1) (by omega) (by omega), e1 _ (by omega), w64_id (by omega) (by omega)]
theorem within_set {B : Int} {o : List Int} (h : within B o) (j : Nat) {v : Int} (hv : -B ≤ v ∧ v ≤ B) : within B (o.set j v) := by
  intro q hq
  rw [List.length_set] at hq
  rw [rd_set _ _ _ _ hq]
  split
  · exact hv
  · exact h q hq
theorem drawOf_g {c : List Int} {p : Int} (hp : 0 ≤ p ∧ p ≤ 1000000000) : ∀ (d j : Nat) (i h : Int) (o : List Int), Src c i → o.length ≤ 1000 → j + d = o.length → within p o →
    ∃ i' h' o', (Src c i' ∧ o'.length = o.length ∧ within p o') ∧ ∀ k, d + 3 ≤ k → ∀ K0 : List Int → Int → Int → List Int → A, spec_l01DrawOf.g4 z k p (j : Int) c i h o K0 = K0 c i' h' o'
  | 0, j, i, h, o, hs, ho, hj, hw => ⟨i, h, o, ⟨hs, rfl, hw⟩, fun k hk K0 => by
    obtain ⟨k, rfl, hk⟩ := up hk
    rw [spec_l01DrawOf.g4, if_neg (by omega)]⟩
  | d + 1, j, i, h, o, hs, ho, hj, hw => by
    obtain ⟨i1, h1, v, ⟨s1, v1, v2⟩, e1⟩ := drawPart_eq z hs h hp
    obtain ⟨i2, h2, u, ⟨s2, hu⟩, e2⟩ := pick_eq z s1 h1 [0, 1, 1] (by simp)
    have hu : u = 0 ∨ u = 1 := by
      simp only [List.mem_cons, List.not_mem_nil, or_false] at hu
      omega
    have hvu : -p ≤ v * u ∧ v * u ≤ p := by
      rcases hu with rfl | rfl
      · rw [Int.mul_zero]; omega
      · rw [Int.mul_one]; omega
    obtain ⟨i3, h3, o', ⟨s3, l3, w3⟩, e3⟩ := drawOf_g hp d (j + 1) i2 h2 (o.set j (v * u)) s2 (by rw [List.length_set]; exact ho) (by rw [List.length_set]; omega) (within_set hw j hvu)
    refine ⟨i3, h3, o', ⟨s3, by rw [l3, List.length_set], w3⟩, fun k hk K0 => ?_⟩
    obtain ⟨k, rfl, hk⟩ := up hk
    rw [spec_l01DrawOf.g4, if_pos (by omega), e1 k (by omega), e2 k (by omega), inI_at z (by omega), w64_up (by omega), w64_id (by omega) (by omega), e3 k (by omega)]
theorem drawOf_eq {c : List Int} {i : Int} (hs : Src c i) (h : Int) {n p : Int} (hn : 1 ≤ n ∧ n ≤ 16) (hp : 0 ≤ p ∧ p ≤ 1000000000) : ∃ i' h' o, (Src c i' ∧ o.length = cycD n.toNat ∧ within p o) ∧ ∀ k, 100 ≤ k → ∀ Φ : List Int → Int → Int → Int → List Int → A, spec_l01DrawOf z k c i h n p Φ = Φ c i' h' n o := by
  obtain ⟨n, rfl⟩ : ∃ j : Nat, n = j := ⟨n.toNat, by omega⟩
  have := le12 (n := n) (by omega) (by omega)
  obtain ⟨i3, h3, o', ⟨s3, l3, w3⟩, e3⟩ := drawOf_g z hp (cycD n) 0 i h (List.replicate (cycD n) 0) hs (by rw [List.length_replicate]; omega) (by rw [List.length_replicate]; omega) (fun q hq => by
    rw [rd_nat _ _ hq, List.getElem_replicate]; omega)
  refine ⟨i3, h3, o', ⟨s3, by rw [l3, List.length_replicate, Int.toNat_natCast], w3⟩, fun k hk Φ => ?_⟩
  obtain ⟨k, rfl⟩ := le_ex (show 1 ≤ k by omega)
  simp only [spec_l01DrawOf, step_succ]
  rw [zero01_eq z (by omega) (by omega) k (by omega)]
  exact e3 _ (by omega) _
theorem bad_eq {c : List Int} {i : Int} (hs : Src c i) (h n : Int) {x : List Int} (h1 : 1 ≤ x.length) (h2 : x.length ≤ 1000) : ∃ i' h' n' x', (Src c i' ∧ x'.length ≤ x.length + 1) ∧ ∀ k, 4 ≤ k → ∀ Φ : List Int → Int → Int → Int → List Int → A, spec_l01Bad z k c i h n x Φ = Φ c i' h' n' x' := by
  obtain ⟨i1, h1', v, ⟨s1, v0, v1, _⟩, e1⟩ := next_eq z hs h 50
  by_cases c0 : v = 0
  · obtain ⟨i2, h2', u, ⟨s2, hu⟩, e2⟩ := pick_eq z s1 h1' [0, 17, (-1)] (by simp)
    refine ⟨i2, h2', u, x, ⟨s2, by omega⟩, fun k hk Φ => ?_⟩
    obtain ⟨k, rfl⟩ := le_ex (show 1 ≤ k by omega)
    simp only [spec_l01Bad, step_succ]
    rw [e1 _ (by omega), if_pos c0, e2 _ (by omega)]
  by_cases c1 : v = 1
  · refine ⟨i1, h1', n, x ++ [0], ⟨s1, by simp⟩, fun k hk Φ => ?_⟩
    obtain ⟨k, rfl⟩ := le_ex (show 1 ≤ k by omega)
    simp only [spec_l01Bad, step_succ]
    rw [e1 _ (by omega), if_neg c0, if_pos c1, own_eq z (by omega) _ (by omega), apI_ok z (by omega)]
  by_cases c2 : v = 2
  · obtain ⟨i2, h2', u, ⟨s2, hu⟩, e2⟩ := pick_eq z s1 h1' [1000000001, (-1000000001), 1099511627776] (by simp)
    refine ⟨i2, h2', n, x.set 0 u, ⟨s2, by rw [List.length_set]; omega⟩, fun k hk Φ => ?_⟩
    obtain ⟨k, rfl⟩ := le_ex (show 1 ≤ k by omega)
    simp only [spec_l01Bad, step_succ]
    rw [e1 _ (by omega), if_neg c0, if_neg c1, if_pos c2, own_eq z (by omega) _ (by omega), e2 _ (by omega), inI_ok z (i := 0) (by omega) (by omega)]
    rfl
  · refine ⟨i1, h1', n, x, ⟨s1, by omega⟩, fun k hk Φ => ?_⟩
    obtain ⟨k, rfl⟩ := le_ex (show 1 ≤ k by omega)
    simp only [spec_l01Bad, step_succ]
    rw [e1 _ (by omega), if_neg c0, if_neg c1, if_neg c2]
theorem near_eq {c : List Int} {i : Int} (hs : Src c i) (h n : Int) : ∃ i' h' v, Src c i' ∧ ∀ k, 4 ≤ k → ∀ Φ : List Int → Int → Int → Int → A, spec_l01Near z k c i h n Φ = Φ c i' h' v := by
  obtain ⟨i1, h1, v, ⟨s1, v0, v1, _⟩, e1⟩ := next_eq z hs h 14
  by_cases c0 : v = 0
  · obtain ⟨i2, h2, u, ⟨s2, hu⟩, e2⟩ := pick_eq z s1 h1 [(-1), (w64 (n + 1)), 1099511627776, (-4611686018427387904)] (by simp)
    refine ⟨i2, h2, u, s2, fun k hk Φ => ?_⟩
    obtain ⟨k, rfl⟩ := le_ex (show 1 ≤ k by omega)
    simp only [spec_l01Near, step_succ]
    rw [e1 _ (by omega), if_pos c0, e2 _ (by omega)]
  · obtain ⟨i2, h2, u, ⟨s2, _⟩, e2⟩ := next_eq z s1 h1 (w64 (n + 1))
    refine ⟨i2, h2, u, s2, fun k hk Φ => ?_⟩
    obtain ⟨k, rfl⟩ := le_ex (show 1 ≤ k by omega)
    simp only [spec_l01Near, step_succ]
    rw [e1 _ (by omega), if_neg c0, e2 _ (by omega)]
end
end Go.Proofs.Ytefdcoeidpbcjaa.F
/- What images, conjugates, sums and lifts keep to. Plain. -/
namespace Go.Proofs.Ytefdcoeidpbcjaa.F
open Go.RowKit Go.Proofs.Ytefdcoeidpbcjaa.R
set_option linter.unusedVariables false
set_option linter.unusedSimpArgs false
theorem imT_nat {n : Nat} (h1 : 1 ≤ n) (h2 : n ≤ 16) {x : List Int} (hx : GoodZ n x) (a : Nat) : imT n x (a : Int) = tab (cycD n) (galN n x a) := by
  have C := cyc_facts h1 h2
  have := C.le12
  refine tab_congr fun m hm => ?_
  have h := gal_le C h1 (B := 1000000000) (by omega) hx.2 (by rw [hx.1]; omega) (a : Int) m
  rw [wrap_id (by omega) (by omega), gal_nat]
theorem gal_neg {n : Nat} (h1 : 1 ≤ n) (x : List Int) (m : Nat) : gal n x (-1) m = gal n x ((n - 1 : Nat) : Int) m := by
  unfold gal
  refine sumF_congr _ 0 fun i _ _ => ?_
  have e : ((i : Int) * ((n - 1 : Nat) : Int)) % (n : Int) = ((i : Int) * (-1)) % (n : Int) := by
    have e1 : (i : Int) * ((n - 1 : Nat) : Int) = (i : Int) * (-1) + (i : Int) * n := by
      rw [← Int.mul_add]
      congr 1
      omega
    rw [e1, Int.add_mul_emod_self_right]
  rw [e]
theorem imT_neg {n : Nat} (h1 : 1 ≤ n) (x : List Int) : imT n x (-1) = imT n x ((n - 1 : Nat) : Int) := tab_congr fun m _ => by rw [gal_neg h1]
theorem neg_tab : ∀ n : Nat, 1 ≤ n → n ≤ 16 → Nat.gcd (n - 1) n = 1 ∧ (n - 1) * (n - 1) % n = 1 % n :=
  by16 (by decide) (by decide) (by decide) (by decide) (by decide) (by decide) (by decide) (by decide) (by decide) (by decide) (by decide) (by decide) (by decide) (by decide) (by decide) (by decide)
theorem rd_imT {n : Nat} (x : List Int) (a : Int) {j : Nat} (hj : j < cycD n) : rd (imT n x a) j = wrap64 (gal n x a j) := tab_rd _ _ _ hj
/-- An image of a square is the square of the image. -/
theorem image_square {n : Nat} (h1 : 1 ≤ n) (h2 : n ≤ 16) {x y P Q : List Int} (hx : GoodZ n x) (hy : GoodZ n y) {a : Nat} (ha : Nat.gcd a n = 1) (hP : mulO n x y = some P) (hQ : mulO n (imT n x (a : Int)) (imT n y (a : Int)) = some Q) : imT n P (a : Int) = Q := by
  rw [imT_nat h1 h2 (mulO_good hP), ]
  rw [imT_nat h1 h2 hx, imT_nat h1 h2 hy] at hQ
  unfold mulO at hP hQ
  split at hP
  · split at hQ
    · cases hP
      cases hQ
      exact tab_congr fun m hm => gal_bil h1 h2 a ha x y m hm
    · cases hQ
  · cases hP
theorem bar_bar {n : Nat} (h1 : 1 ≤ n) (h2 : n ≤ 16) {x : List Int} (hx : GoodZ n x) (hy : GoodZ n (imT n x (-1))) : imT n (imT n x (-1)) (-1) = x := by
  obtain ⟨g, s⟩ := neg_tab n h1 h2
  rw [imT_neg h1 (imT n x (-1)), imT_nat h1 h2 hy, imT_neg h1, imT_nat h1 h2 hx]
  refine (tab_ext hx.1 fun m hm => ?_).symm
  rw [gal_gal h1 h2 _ _ g x m hm, gal_one (cyc_facts h1 h2) x hx.1 _ s m hm]
theorem plusL_length (x y : List Int) (v : Int) : (plusL x y v).length = x.length := addIn_length y v 0 y.length 0 x
theorem good_wrapped {n : Nat} {x : List Int} (hx : GoodZ n x) : Wrapped x := fun j hj => by
  have := hx.2 j hj
  exact wrap_id (by omega) (by omega)
theorem plusL_rd {n : Nat} {x y : List Int} (hx : GoodZ n x) (hy : GoodZ n y) (hs : GoodZ n (plusL x y 1)) {j : Nat} (hj : j < cycD n) : rd (plusL x y 1) j = rd x j + rd y j := by
  have l1 := hx.1
  have l2 := hy.1
  obtain ⟨a1, a2, a3⟩ := addIn_facts y 1 0 y.length 0 x (by omega) (good_wrapped hx)
  have h := a3 (fun i => if j = i then 1 else 0)
  have e : sumF 0 y.length (fun i => rd y i * (if j = 0 + i then 1 else 0)) = rd y j := by
    have := dot_one y j (by omega)
    unfold dot at this
    rw [← this]
    exact sumF_congr _ 0 fun i _ _ => by rw [Nat.zero_add]
  have hl : j < (addIn y 1 0 y.length 0 x).length := by rw [a1]; omega
  rw [e, dot_one x j (by omega), dot_one _ j hl, Int.one_mul] at h
  have := h.eq
  have b1 := hx.2 j (by omega)
  have b2 := hy.2 j (by omega)
  have b3 := hs.2 j (by rw [plusL_length]; omega)
  unfold plusL at b3 ⊢
  rw [wrap_id (x := rd x j + rd y j) (by omega) (by omega), wrap_id (by omega) (by omega)] at this
  exact this
theorem galN_plus {n : Nat} {x y s : List Int} (hx : x.length = cycD n) (hy : y.length = cycD n) (hs : s.length = cycD n) (h : ∀ j : Nat, j < cycD n → rd s j = rd x j + rd y j) (a m : Nat) : galN n s a m = galN n x a m + galN n y a m := by
  unfold galN
  rw [hx, hy, hs, ← sumF_add]
  exact sumF_congr _ 0 fun i _ hi => by rw [h i (by omega), Int.add_mul]
theorem plus_bar {n : Nat} (h1 : 1 ≤ n) (h2 : n ≤ 16) {x : List Int} (hx : GoodZ n x) (hy : GoodZ n (imT n x (-1))) (hs : GoodZ n (plusL x (imT n x (-1)) 1)) : imT n (plusL x (imT n x (-1)) 1) (-1) = plusL x (imT n x (-1)) 1 := by
  obtain ⟨g, s⟩ := neg_tab n h1 h2
  have bb := bar_bar h1 h2 hx hy
  have hp := fun {j : Nat} (hj : j < cycD n) => plusL_rd hx hy hs hj
  have e1 : imT n x (-1) = tab (cycD n) (galN n x (n - 1)) := by rw [imT_neg h1, imT_nat h1 h2 hx]
  have e2 : imT n (imT n x (-1)) (-1) = tab (cycD n) (galN n (imT n x (-1)) (n - 1)) := by rw [imT_neg h1 (imT n x (-1)), imT_nat h1 h2 hy]
  rw [imT_neg h1 (plusL x (imT n x (-1)) 1), imT_nat h1 h2 hs]
  refine (tab_ext hs.1 fun m hm => ?_).symm
  rw [hp hm, galN_plus hx.1 hy.1 hs.1 (fun j hj => hp hj)]
  have f1 : rd (imT n x (-1)) m = galN n x (n - 1) m := by rw [e1, tab_rd _ _ _ hm]
  have f2 : rd x m = galN n (imT n x (-1)) (n - 1) m := by
    have := tab_rd (cycD n) (galN n (imT n x (-1)) (n - 1)) m hm
    rw [← this, ← e2, bb]
  omega
theorem galQ_le {n : Nat} (C : CycFacts n) (hn : 1 ≤ n) {x : List Int} (hx : within 1000000000 x) (hl : x.length ≤ 12) (q : Nat → Nat) (m : Nat) : -12000000000 ≤ galQ n x q m ∧ galQ n x q m ≤ 12000000000 := by
  have h := sumF_le (B := 1000000000) (f := fun i => rd x i * cycW n m (q i)) x.length 0 (fun i _ hi => by
    have := mul_le (hx i (by omega)) (cycW_small C hn m (q i))
    omega)
  unfold galQ
  omega
theorem lift_kept {n m : Nat} (h1 : 1 ≤ n) (h2 : n ≤ 16) (m1 : 1 ≤ m) (m2 : m ≤ 16) (hd : m % n = 0) {x : List Int} (hx : GoodZ n x) (hL : GoodZ m (liftT m (m / n) x)) {a : Nat} (ha1 : 1 ≤ a) (ha : Nat.gcd a m = 1) (hm : (a - 1) % n = 0) : imT m (liftT m (m / n) x) (a : Int) = liftT m (m / n) x := by
  have C := cyc_facts m1 m2
  have Cn := cyc_facts h1 h2
  have := Cn.le12
  have lx := hx.1
  have e : liftT m (m / n) x = tab (cycD m) (galQ m x (fun i => i * (m / n) % m)) := tab_congr fun j _ => by
    have := galQ_le C m1 hx.2 (by omega) (fun i => i * (m / n) % m) j
    exact w64_id (by omega) (by omega)
  rw [imT_nat m1 m2 hL, e]
  refine tab_congr fun j hj => ?_
  rw [gal_galQ m1 m2 a ha x _ j hj]
  unfold galQ
  refine sumF_congr _ 0 fun i _ _ => congrArg (rd x i * ·) ?_
  rw [cycW_mul, ← cycW_mod m j (i * (m / n) * a), ← cycW_mod m j (i * (m / n) % m), Nat.mod_mod]
  congr 1
  obtain ⟨t, ht⟩ : ∃ t, a = 1 + n * t := ⟨(a - 1) / n, by have := Nat.div_add_mod (a - 1) n; omega⟩
  have hs : n * (m / n) = m := by have := Nat.div_add_mod m n; omega
  rw [ht, Nat.mul_add, Nat.mul_one, show i * (m / n) * (n * t) = m * (i * t) by rw [Nat.mul_assoc, ← Nat.mul_assoc (m / n), Nat.mul_comm (m / n) n, hs, Nat.mul_left_comm], Nat.add_mul_mod_self_left]
theorem allF_true {n m : Nat} {x : List Int} (h : ∀ a : Nat, 1 ≤ a → Nat.gcd a n = 1 → (a - 1) % m = 0 → imT n x (a : Int) = x) : ∀ (d a : Nat), 1 ≤ a → allF n m x d a = true
  | 0, a, _ => rfl
  | d + 1, a, ha => by
    rw [allF]
    by_cases c : (a - 1) % m = 0 ∧ Nat.gcd a n = 1
    · rw [if_pos c, if_pos (h a ha c.2 c.1), allF_true h d (a + 1) (by omega)]
    · rw [if_neg c, allF_true h d (a + 1) (by omega)]
end Go.Proofs.Ytefdcoeidpbcjaa.F
/- What the functions of the first layer answer, when they answer. Plain. -/
namespace Go.Proofs.Ytefdcoeidpbcjaa.F
open Go.RowKit Go.Proofs.Ytefdcoeidpbcjaa.R
set_option linter.unusedVariables false
set_option linter.unusedSimpArgs false
theorem told3_zero {n : Int} {l : List Int} (h : (told3 n l).2.2 = 0) : smallL l = true ∧ told3 n l = (n, l, 0) := by
  unfold told3 at h ⊢
  split at h
  · rename_i c; exact ⟨c, if_pos c⟩
  · exact absurd h (by decide)
theorem isC_of {n : Nat} (h1 : 1 ≤ n) (h2 : n ≤ 16) {l : List Int} (hl : l.length = cycD n) (hs : smallL l = true) : isC (n : Int) l = true := by
  unfold isC
  rw [decide_eq_true (show 1 ≤ (n : Int) ∧ (n : Int) ≤ 16 by omega), Int.toNat_natCast, decide_eq_true hl, hs]
  rfl
theorem told3_len (n : Int) (l : List Int) : (told3 n l).2.1.length ≤ l.length := by
  unfold told3
  split
  · exact Nat.le_refl _
  · exact Nat.zero_le _
theorem gal3_zero {n a : Int} {x : List Int} (h : (gal3 n x a).2.2 = 0) : ∃ m b : Nat, n = m ∧ a = b ∧ 1 ≤ m ∧ m ≤ 16 ∧ GoodZ m x ∧ 1 ≤ b ∧ b ≤ m ∧ Nat.gcd b m = 1 ∧ smallL (imT m x (b : Int)) = true ∧ gal3 n x a = ((m : Int), imT m x (b : Int), 0) := by
  unfold gal3 at h ⊢
  split at h
  · rename_i c
    obtain ⟨m, rfl, h1, h2, h3, h4, h5⟩ := isC_x c
    rw [Int.toNat_natCast] at h ⊢
    split at h
    · rename_i c2
      obtain ⟨b, rfl⟩ : ∃ j : Nat, a = j := ⟨a.toNat, by omega⟩
      obtain ⟨s, e⟩ := told3_zero h
      exact ⟨m, b, rfl, rfl, h1, h2, h5, by omega, by omega, c2.2, s, by rw [if_pos c, if_pos c2, e]⟩
    · exact absurd h (by decide)
  · exact absurd h (by decide)
theorem gal3_len {n a : Int} {x : List Int} : (gal3 n x a).2.1.length ≤ 12 := by
  unfold gal3
  split
  · rename_i c
    obtain ⟨m, rfl, h1, h2, h3, h4, h5⟩ := isC_x c
    split
    · refine Nat.le_trans (told3_len _ _) ?_
      rw [imT_len, Int.toNat_natCast]
      exact le12 h1 h2
    · exact Nat.zero_le _
  · exact Nat.zero_le _
theorem mul3_zero {m n : Int} {x y : List Int} (h : (mul3 m x n y).2.2 = 0) : ∃ P, isC m x = true ∧ isC n y = true ∧ m = n ∧ mulO m.toNat x y = some P ∧ mul3 m x n y = (m, P, 0) := by
  unfold mul3 at h ⊢
  split at h
  · rename_i c; exact absurd h c
  · rename_i c
    obtain ⟨c1, c2, c3⟩ := codeC_zero (Decidable.of_not_not c)
    rw [if_neg c]
    cases e : mulO m.toNat x y with
    | none =>
      rw [e] at h
      have h : (3 : Int) = 0 := h
      omega
    | some P => exact ⟨P, c1, c2, c3, rfl, rfl⟩
theorem mul3_len {m n : Int} {x y : List Int} : (mul3 m x n y).2.1.length ≤ 12 := by
  unfold mul3
  split
  · exact Nat.zero_le _
  · rename_i c
    obtain ⟨c1, c2, c3⟩ := codeC_zero (Decidable.of_not_not c)
    obtain ⟨m, rfl, h1, h2, h3, h4, h5⟩ := isC_x c1
    rw [Int.toNat_natCast]
    cases e : mulO m x y with
    | none => exact Nat.zero_le _
    | some P =>
      have := (mulO_good e).1
      have := le12 h1 h2
      show P.length ≤ 12
      omega
/-- The square's image, and the image's square. -/
theorem square_kept {n a : Int} {x : List Int} (h : (gal3 n x a).2.2 = 0) (h1 : (mul3 n x n x).2.2 = 0) (h2 : (gal3 (mul3 n x n x).1 (mul3 n x n x).2.1 a).2.2 = 0)
    (h3 : (mul3 (gal3 n x a).1 (gal3 n x a).2.1 (gal3 n x a).1 (gal3 n x a).2.1).2.2 = 0) :
    (gal3 (mul3 n x n x).1 (mul3 n x n x).2.1 a).1 = (mul3 (gal3 n x a).1 (gal3 n x a).2.1 (gal3 n x a).1 (gal3 n x a).2.1).1 ∧
    (gal3 (mul3 n x n x).1 (mul3 n x n x).2.1 a).2.1 = (mul3 (gal3 n x a).1 (gal3 n x a).2.1 (gal3 n x a).1 (gal3 n x a).2.1).2.1 := by
  obtain ⟨m, b, rfl, rfl, m1, m2, gx, b1, b2, g, s, e⟩ := gal3_zero h
  obtain ⟨P, c1, c2, c3, p1, p2⟩ := mul3_zero h1
  rw [p2] at h2 ⊢
  obtain ⟨m', b', hm, hb, _, _, gp, _, _, _, sp, ep⟩ := gal3_zero h2
  have hm : m' = m := by have : (m : Int) = m' := hm; omega
  have hb : b' = b := by omega
  subst hm hb
  rw [e] at h3 ⊢
  obtain ⟨Q, d1, d2, d3, q1, q2⟩ := mul3_zero h3
  rw [q2, ep]
  rw [Int.toNat_natCast] at p1 q1
  exact ⟨rfl, image_square m1 m2 gx gx g p1 q1⟩
theorem bar3_zero {n : Int} {x : List Int} (h : (bar3 n x).2.2 = 0) : ∃ m : Nat, n = m ∧ 1 ≤ m ∧ m ≤ 16 ∧ GoodZ m x ∧ GoodZ m (imT m x (-1)) ∧ bar3 n x = ((m : Int), imT m x (-1), 0) := by
  unfold bar3 at h ⊢
  split at h
  · rename_i c
    obtain ⟨m, rfl, h1, h2, h3, h4, h5⟩ := isC_x c
    rw [Int.toNat_natCast] at h ⊢
    obtain ⟨s, e⟩ := told3_zero h
    exact ⟨m, rfl, h1, h2, h5, ⟨imT_len _ _ _, smallL_within.1 s⟩, by rw [if_pos c, e]⟩
  · exact absurd h (by decide)
theorem bar3_of {m : Nat} (h1 : 1 ≤ m) (h2 : m ≤ 16) {x : List Int} (hx : GoodZ m x) (hy : GoodZ m (imT m x (-1))) : bar3 (m : Int) x = ((m : Int), imT m x (-1), 0) := by
  unfold bar3
  rw [if_pos (isC_of h1 h2 hx.1 (good_small hx)), Int.toNat_natCast]
  unfold told3
  rw [if_pos (good_small hy)]
theorem bar3_len {n : Int} {x : List Int} : (bar3 n x).2.1.length ≤ 12 := by
  unfold bar3
  split
  · rename_i c
    obtain ⟨m, rfl, h1, h2, h3, h4, h5⟩ := isC_x c
    refine Nat.le_trans (told3_len _ _) ?_
    rw [imT_len, Int.toNat_natCast]
    exact le12 h1 h2
  · exact Nat.zero_le _
theorem bar_kept {n : Int} {x : List Int} (h : (bar3 n x).2.2 = 0) : bar3 (bar3 n x).1 (bar3 n x).2.1 = (n, x, 0) := by
  obtain ⟨m, rfl, m1, m2, gx, gy, e⟩ := bar3_zero h
  have bb := bar_bar m1 m2 gx gy
  rw [e]
  show bar3 (m : Int) (imT m x (-1)) = _
  rw [bar3_of m1 m2 gy (by rw [bb]; exact gx), bb]
theorem add3_len {m n : Int} {x y : List Int} {v : Int} : (add3 m x n y v).2.1.length ≤ 12 := by
  unfold add3
  split
  · exact Nat.zero_le _
  · rename_i c
    obtain ⟨c1, c2, c3⟩ := codeC_zero (Decidable.of_not_not c)
    obtain ⟨m, rfl, h1, h2, h3, h4, h5⟩ := isC_x c1
    split
    · refine Nat.le_trans (told3_len _ _) ?_
      rw [plusL_length]
      exact h4
    · exact Nat.zero_le _
theorem plus_kept {n : Int} {x : List Int} (h : (bar3 n x).2.2 = 0) (h2 : (add3 n x (bar3 n x).1 (bar3 n x).2.1 1).2.2 = 0) : real2 (add3 n x (bar3 n x).1 (bar3 n x).2.1 1).1 (add3 n x (bar3 n x).1 (bar3 n x).2.1 1).2.1 = (true, 0) := by
  obtain ⟨m, rfl, m1, m2, gx, gy, e⟩ := bar3_zero h
  rw [e] at h2 ⊢
  have h2 : (add3 (m : Int) x (m : Int) (imT m x (-1)) 1).2.2 = 0 := h2
  show real2 (add3 (m : Int) x (m : Int) (imT m x (-1)) 1).1 (add3 (m : Int) x (m : Int) (imT m x (-1)) 1).2.1 = _
  unfold add3 at h2 ⊢
  split at h2
  · rename_i c; exact absurd h2 c
  · rename_i c
    rw [if_neg c]
    rw [if_pos (show -1000 ≤ (1 : Int) ∧ (1 : Int) ≤ 1000 by omega)] at h2 ⊢
    obtain ⟨s, e3⟩ := told3_zero h2
    rw [e3]
    have gs : GoodZ m (plusL x (imT m x (-1)) 1) := ⟨by rw [plusL_length]; exact gx.1, smallL_within.1 s⟩
    show real2 (m : Int) (plusL x (imT m x (-1)) 1) = _
    unfold real2
    rw [if_pos (isC_of m1 m2 gs.1 s), Int.toNat_natCast, decide_eq_true (plus_bar m1 m2 gx gy gs)]
theorem lift3_len {n m : Int} {x : List Int} : (lift3 n x m).2.1.length ≤ 12 := by
  unfold lift3
  split
  · split
    · split
      · refine Nat.le_trans (told3_len _ _) ?_
        unfold liftT
        rw [tab_length]
        exact le12 (by omega) (by omega)
      · exact Nat.zero_le _
    · exact Nat.zero_le _
  · exact Nat.zero_le _
theorem lift3_kept {n m : Int} {x : List Int} (h : (lift3 n x m).2.2 = 0) : inF (lift3 n x m).1 (lift3 n x m).2.1 n = (true, 0) := by
  unfold lift3 at h ⊢
  split at h
  · rename_i c
    obtain ⟨n, rfl, h1, h2, h3, h4, h5⟩ := isC_x c
    rw [if_pos c]
    split at h
    · rename_i c2
      obtain ⟨m, rfl⟩ : ∃ j : Nat, m = j := ⟨m.toNat, by omega⟩
      rw [if_pos c2]
      rw [Int.toNat_natCast, Int.toNat_natCast] at h ⊢
      split at h
      · rename_i c3
        rw [if_pos c3]
        obtain ⟨s, e⟩ := told3_zero h
        rw [e]
        have hl : (liftT m (m / n) x).length = cycD m := tab_length _ _
        have gs : GoodZ m (liftT m (m / n) x) := ⟨hl, smallL_within.1 s⟩
        show inF (m : Int) (liftT m (m / n) x) (n : Int) = _
        unfold inF
        rw [if_pos (isC_of (by omega) (by omega) hl s), Int.toNat_natCast, Int.toNat_natCast, if_pos ⟨by omega, c3⟩]
        rw [allF_true (fun a a1 a2 a3 => lift_kept h1 h2 (by omega) (by omega) c3 h5 gs a1 a2 a3) m 1 (by omega)]
      · exact absurd h (by decide)
    · exact absurd h (by decide)
  · exact absurd h (by decide)
end Go.Proofs.Ytefdcoeidpbcjaa.F
/- Facts on the functions of the first layer: products by the other side. -/
namespace Go.Proofs.Ytefdcoeidpbcjaa.F
open Go.RowKit Go.Proofs.Ytefdcoeidpbcjaa.R
set_option linter.unusedVariables false
set_option linter.unusedSimpArgs false
section
variable {A : Type} (z : A)
theorem prod01_g9 {x y : List Int} (hx : x.length ≤ 100) (hy : y.length ≤ 100) {i : Nat} (hi : i < x.length) {K0 : List Int → A} : ∀ (d c k : Nat) (L : List Int), c + d = y.length → x.length + y.length ≤ L.length + 1 → d + 1 ≤ k →
    spec_l01Product.g9 z k y (i : Int) (c : Int) x L K0 = K0 (addIn y (rd x i) i d c L)
  | d, c, 0, L, _, _, hk => absurd hk (by omega)
  | 0, c, k + 1, L, hc, hL, hk => by
    rw [spec_l01Product.g9, if_neg (by omega)]
    rfl
  | d + 1, c, k + 1, L, hc, hL, hk => by
    have e : w64 ((i : Int) + (c : Int)) = ((i + c : Nat) : Int) := by rw [w64_id (by omega) (by omega)]; omega
    rw [spec_l01Product.g9, if_pos (by omega), e, inI_at z (by omega), inI_at z (by omega), inI_at z (by omega), inI_at z (by omega), w64_up (by omega), prod01_g9 hx hy hi d (c + 1) k _ (by omega) (by rw [List.length_set]; exact hL) (by omega)]
    rfl
theorem prod01_g4 {x y : List Int} (hx : x.length ≤ 100) (hy : y.length ≤ 100) {K0 : List Int → A} : ∀ (d i k : Nat) (L : List Int), i + d = x.length → x.length + y.length ≤ L.length + 1 → d + y.length + 2 ≤ k →
    spec_l01Product.g4 z k y (i : Int) x L K0 = K0 (addOut x y d i L)
  | d, i, 0, L, _, _, hk => absurd hk (by omega)
  | 0, i, k + 1, L, hi, hL, hk => by
    rw [spec_l01Product.g4, if_neg (by omega)]
    rfl
  | d + 1, i, k + 1, L, hi, hL, hk => by
    rw [spec_l01Product.g4, if_pos (by omega)]
    refine Eq.trans (prod01_g9 z hx hy (i := i) (by omega) y.length 0 k L (by omega) hL (by omega)) ?_
    rw [w64_up (by omega), prod01_g4 hx hy d (i + 1) k _ (by omega) (by rw [addIn_length]; exact hL) (by omega)]
    rfl
theorem product01_eq {n : Nat} (h1 : 1 ≤ n) (h2 : n ≤ 16) {x y : List Int} (hx : x.length ≤ 100) (hy : y.length ≤ 100) (h0 : 1 ≤ y.length) (k : Nat) (hk : 600 ≤ k) (Φ : Int → List Int → A) : spec_l01Product z k (n : Int) x y Φ = Φ n (tab (cycD n) fun m => wrap64 (bil n x y m)) := by
  obtain ⟨k, rfl⟩ := le_ex (show 1 ≤ k by omega)
  rw [spec_l01Product, step_succ]
  have e : w64 (w64 ((x.length : Int) + (y.length : Int)) - 1) = ((x.length + y.length - 1 : Nat) : Int) := by rw [w64_id (x := (x.length : Int) + y.length) (by omega) (by omega), w64_id (by omega) (by omega)]; omega
  rw [e, mkI_at z (by omega)]
  have hl : (List.replicate (x.length + y.length - 1) (0 : Int)).length = x.length + y.length - 1 := List.length_replicate
  have hd := fun w => dot_zeros (x.length + y.length - 1) w
  have hw := wrapped_zeros (x.length + y.length - 1)
  generalize List.replicate (x.length + y.length - 1) (0 : Int) = L at hl hd hw ⊢
  obtain ⟨a1, a2, a3⟩ := addOut_facts x y x.length 0 L (by omega) hw
  refine Eq.trans (prod01_g4 z hx hy x.length 0 k L (by omega) (by omega) (by omega)) ?_
  rw [reduce_eq z h1 h2 (by omega) a2 k (by omega)]
  refine congrArg (Φ (n : Int)) (tab_congr fun m _ => ?_)
  refine ((a3 (cycW n m)).trans (Cg.of ?_)).eq
  rw [hd, Int.zero_add]
  rfl
theorem times01_g4 {y : List Int} (hy : y.length ≤ 100) {K0 : List Int → List Int → A} : ∀ (d i k : Nat) (P Q : List Int), i + d = y.length → P.length ≤ 1000 + i → Q.length ≤ 1000 + i → d + 1 ≤ k →
    spec_l01Times.g4 z k (i : Int) y P Q K0 = K0 (P ++ (y.drop i).map lo5) (Q ++ (y.drop i).map hi5)
  | d, i, 0, P, Q, _, _, _, hk => absurd hk (by omega)
  | 0, i, k + 1, P, Q, hi, hP, hQ, hk => by
    rw [spec_l01Times.g4, if_neg (by omega), List.drop_of_length_le (by omega), List.map_nil, List.append_nil, List.map_nil, List.append_nil]
  | d + 1, i, k + 1, P, Q, hi, hP, hQ, hk => by
    rw [spec_l01Times.g4, if_pos (by omega), inI_at z (by omega), apI_ok z (by omega), inI_at z (by omega), apI_ok z (by omega), w64_up (by omega), times01_g4 hy d (i + 1) k _ _ (by omega) (by rw [List.length_append]; simp only [List.length_singleton]; omega) (by rw [List.length_append]; simp only [List.length_singleton]; omega) (by omega), drop_at y i (by omega), List.map_cons, List.map_cons, List.append_assoc, List.append_assoc]
    rfl
theorem tab_getD {d : Nat} {g : Nat → Int} {m : Nat} (hm : m < d) : (tab d g).getD m 0 = g m := by
  have := tab_rd d g m hm
  unfold rd at this
  rwa [Int.toNat_natCast] at this
def okH (H : Nat → Int) : Nat → Nat → Bool
  | 0, _ => true
  | d + 1, m => decide (-10000000000000 ≤ H m ∧ H m ≤ 10000000000000) && okH H d (m + 1)
theorem okH_all {H : Nat → Int} : ∀ (d m : Nat), (∀ j, m ≤ j → j < m + d → -10000000000000 ≤ H j ∧ H j ≤ 10000000000000) → okH H d m = true
  | 0, m, _ => rfl
  | d + 1, m, h => by
    rw [okH, okH_all d (m + 1) (fun j h1 h2 => h j (by omega) (by omega)), decide_eq_true (h m (Nat.le_refl _) (by omega))]
    rfl
theorem times01_g13 {D : Nat} (hD : D ≤ 100) {H L : Nat → Int} (hL : ∀ m, m < D → -1000000000000000000 ≤ L m ∧ L m ≤ 1000000000000000000) : ∀ (d m : Nat), m + d = D →
    ∃ R : List Int, R.length = D ∧ ∀ (k : Nat), d + 2 ≤ k → ∀ (K0 : Bool → List Int → A) (K1 : List Int → A), spec_l01Times.g13 z k (m : Int) (tab D L) (tab D H) (tab D fun j => if j < m then 100000 * H j + L j else 0) K0 K1 = bif okH H d m then K1 (tab D fun j => 100000 * H j + L j) else K0 false R
  | 0, m, hm => by
    have e : (tab D fun j => if j < m then 100000 * H j + L j else 0) = tab D fun j => 100000 * H j + L j := tab_congr (fun j hj => if_pos (by omega))
    rw [e]
    refine ⟨tab D fun j => 100000 * H j + L j, tab_length _ _, fun k hk K0 K1 => ?_⟩
    obtain ⟨k, rfl, hk⟩ := up (show 1 + 1 ≤ k by omega)
    rw [spec_l01Times.g13, if_neg (by rw [tab_length]; omega)]
    rfl
  | d + 1, m, hm => by
    have b := hL m (by omega)
    have l1 : m < (tab D L).length := by rw [tab_length]; omega
    have l2 : m < (tab D H).length := by rw [tab_length]; omega
    have l3 : m < (tab D fun j => if j < m then 100000 * H j + L j else 0).length := by rw [tab_length]; omega
    by_cases h : -10000000000000 ≤ H m ∧ H m ≤ 10000000000000
    · have e : (tab D fun j => if j < m then 100000 * H j + L j else 0).set m (w64 (w64 (H m * 100000) + L m)) = tab D fun j => if j < m + 1 then 100000 * H j + L j else 0 := by
        rw [tab_set, w64_id (x := H m * 100000) (by omega) (by omega), w64_id (by omega) (by omega)]
        refine tab_congr (fun j hj => ?_)
        by_cases c : m = j
        · subst c; rw [if_pos rfl, if_pos (by omega)]; omega
        · rw [if_neg c]
          by_cases c2 : j < m
          · rw [if_pos c2, if_pos (by omega)]
          · rw [if_neg c2, if_neg (by omega)]
      obtain ⟨R, g0, g3⟩ := times01_g13 hD hL d (m + 1) (by omega)
      refine ⟨R, g0, fun k hk K0 K1 => ?_⟩
      obtain ⟨k, rfl, hk⟩ := up (show d + 2 + 1 ≤ k by omega)
      obtain ⟨j, rfl⟩ := le_ex (show 1 ≤ k by omega)
      rw [spec_l01Times.g13, if_pos (by omega), inI_at z l2, in_eq, tab_getD (by omega), decide_eq_true h, Bool.not_true, cond_false, inI_at z l2, inI_at z l1, inI_at z l3, tab_getD (by omega), tab_getD (by omega), w64_up (by omega), e, g3 _ (by omega), okH, decide_eq_true h, Bool.true_and]
    · refine ⟨tab D fun j => if j < m then 100000 * H j + L j else 0, tab_length _ _, fun k hk K0 K1 => ?_⟩
      obtain ⟨k, rfl, hk⟩ := up (show d + 2 + 1 ≤ k by omega)
      obtain ⟨j, rfl⟩ := le_ex (show 1 ≤ k by omega)
      rw [spec_l01Times.g13, if_pos (by omega), inI_at z l2, in_eq, tab_getD (by omega), decide_eq_false h, Bool.not_false, cond_true, okH, decide_eq_false h, Bool.false_and, cond_false]
/-- The product by the other side: its list if it fits. -/
theorem times01_eq {n : Nat} (h1 : 1 ≤ n) (h2 : n ≤ 16) (n2 : Int) {x y : List Int} (hx : x.length = cycD n) (hy : y.length = cycD n) (bx : within 16000000000 x) (by_ : within 16000000000 y) :
    ∃ R, (R.length = cycD n ∧ (okB n x y = true → R = tab (cycD n) (bil n x y))) ∧ ∀ k, 800 ≤ k → ∀ Φ : Int → List Int → Bool → A, spec_l01Times z k (n : Int) x n2 y Φ = Φ n R (okB n x y) := by
  have C := cyc_facts h1 h2
  have c12 := C.le12
  have c1 := C.pos
  have hlo : within 100000 (y.map lo5) := by
    intro j hj
    rw [List.length_map] at hj
    rw [rd_map _ _ _ hj]
    exact (lohi (by_ j hj)).2.1
  have hhi : within 160000 (y.map hi5) := by
    intro j hj
    rw [List.length_map] at hj
    rw [rd_map _ _ _ hj]
    exact (lohi (by_ j hj)).2.2
  have bL : ∀ m, -230400000000000000 ≤ bil n x (y.map lo5) m ∧ bil n x (y.map lo5) m ≤ 230400000000000000 := fun m => by
    have := bil_le C h1 (by omega) (by omega) bx hlo (by omega) (by rw [List.length_map]; omega) m
    omega
  have bH : ∀ m, -368640000000000000 ≤ bil n x (y.map hi5) m ∧ bil n x (y.map hi5) m ≤ 368640000000000000 := fun m => by
    have := bil_le C h1 (by omega) (by omega) bx hhi (by omega) (by rw [List.length_map]; omega) m
    omega
  have eT : ∀ m, bil n x y m = 100000 * bil n x (y.map hi5) m + bil n x (y.map lo5) m := fun m => bil_split n x y by_ m
  have eL : (tab (cycD n) fun m => wrap64 (bil n x (y.map lo5) m)) = tab (cycD n) (bil n x (y.map lo5)) := tab_congr (fun m _ => wrap_id (by have := bL m; omega) (by have := bL m; omega))
  have eH : (tab (cycD n) fun m => wrap64 (bil n x (y.map hi5) m)) = tab (cycD n) (bil n x (y.map hi5)) := tab_congr (fun m _ => wrap_id (by have := bH m; omega) (by have := bH m; omega))
  have e0 : (tab (cycD n) fun j => if j < 0 then 100000 * bil n x (y.map hi5) j + bil n x (y.map lo5) j else 0) = List.replicate (cycD n) 0 := by
    rw [tab_zero]; exact tab_congr (fun j _ => if_neg (by omega))
  have eB : (tab (cycD n) fun j => 100000 * bil n x (y.map hi5) j + bil n x (y.map lo5) j) = tab (cycD n) (bil n x y) := tab_congr (fun j _ => (eT j).symm)
  obtain ⟨R, g0, g3⟩ := times01_g13 z (D := cycD n) (by omega) (H := bil n x (y.map hi5)) (L := bil n x (y.map lo5)) (fun m _ => by have := bL m; omega) (cycD n) 0 (by omega)
  rw [e0, eB] at g3
  have st : ∀ k, 800 ≤ k → ∀ Φ : Int → List Int → Bool → A, spec_l01Times z k (n : Int) x n2 y Φ = bif okH (bil n x (y.map hi5)) (cycD n) 0 then Φ n (tab (cycD n) (bil n x y)) (okB n x y) else Φ n R false := fun k hk Φ => by
    obtain ⟨k, rfl⟩ := le_ex (show 1 ≤ k by omega)
    simp only [spec_l01Times, step_succ]
    refine Eq.trans (times01_g4 z (by omega) y.length 0 k [] [] (by omega) (by simp) (by simp) (by omega)) ?_
    rw [List.drop_zero, List.nil_append, List.nil_append, product01_eq z h1 h2 (by omega) (by rw [List.length_map]; omega) (by rw [List.length_map]; omega) k (by omega), product01_eq z h1 h2 (by omega) (by rw [List.length_map]; omega) (by rw [List.length_map]; omega) k (by omega), eL, eH, zero01_eq z h1 h2 k (by omega)]
    refine Eq.trans (g3 k (by omega) _ _) ?_
    rw [fits_eq z (by rw [tab_length]; omega) _ k (by rw [tab_length]; omega)]
    rfl
  by_cases o : okH (bil n x (y.map hi5)) (cycD n) 0 = true
  · refine ⟨tab (cycD n) (bil n x y), ⟨tab_length _ _, fun _ => rfl⟩, fun k hk Φ => ?_⟩
    rw [st k hk, o, cond_true]
  · have ob : okB n x y = false := by
      cases c : okB n x y with
      | false => rfl
      | true =>
        refine absurd (okH_all (cycD n) 0 fun j _ hj => ?_) o
        have t := smallL_tab.1 c j (by omega)
        have := eT j
        have := bL j
        omega
    refine ⟨R, ⟨g0, fun h => by rw [ob] at h; cases h⟩, fun k hk Φ => ?_⟩
    rw [st k hk, ob]
    cases c : okH (bil n x (y.map hi5)) (cycD n) 0 with
    | true => exact absurd c o
    | false => rfl
end
end Go.Proofs.Ytefdcoeidpbcjaa.F
/- Facts on the functions of places: values of polynomials at a root, powers. -/
namespace Go.Proofs.Ytefdcoeidpbcjaa.F
open Go.RowKit Go.Proofs.Ytefdcoeidpbcjaa.R
set_option linter.unusedVariables false
set_option linter.unusedSimpArgs false
/-- The value at r, modulo p. -/
def horn (p r : Nat) : List Int → Int
  | [] => 0
  | a :: t => (horn p r t * r + a.tmod p) % p
theorem horn_bd {p : Nat} (h1 : 1 ≤ p) (r : Nat) : ∀ x : List Int, 0 ≤ horn p r x ∧ horn p r x < p
  | [] => by unfold horn; omega
  | a :: t => by
    unfold horn
    exact ⟨Int.emod_nonneg _ (by omega), Int.emod_lt_of_pos _ (by omega)⟩
theorem horn_step {p r : Nat} (h1 : 1 ≤ p) (h2 : p ≤ 1000) (hr : r ≤ 1000) (x : List Int) (a : Int) : (0 ≤ horn p r x * r ∧ horn p r x * r ≤ 1000000) ∧ -1000 < a.tmod p ∧ a.tmod p < 1000 := by
  obtain ⟨b1, b2⟩ := horn_bd h1 r x
  have t := tmod_lt (a := a) (n := (p : Int)) (by omega)
  refine ⟨?_, by omega, by omega⟩
  have := mul_bd (i := 100) (a := 0) (by omega) (by omega)
  obtain ⟨m, hm⟩ : ∃ m : Nat, horn p r x = m := ⟨(horn p r x).toNat, by omega⟩
  rw [hm, ← Int.natCast_mul]
  have := Nat.mul_le_mul (show m ≤ 1000 by omega) hr
  omega
section
variable {A : Type} (z : A)
theorem valueAt_g {p r : Nat} (h1 : 1 ≤ p) (h2 : p ≤ 1000) (hr : r ≤ 1000) {x : List Int} (hx : x.length ≤ 1000) {K0 : Int → A} : ∀ (i k : Nat), i ≤ x.length → i + 2 ≤ k →
    impl_valueAt.g4 z k x (r : Int) (p : Int) (horn p r (x.drop i)) ((i : Int) - 1) K0 = K0 (horn p r x)
  | i, 0, _, hk => absurd hk (by omega)
  | 0, k + 1, hi, hk => by
    rw [impl_valueAt.g4, if_neg (by omega)]
    rfl
  | i + 1, k + 1, hi, hk => by
    obtain ⟨⟨s1, s2⟩, s3, s4⟩ := horn_step h1 h2 hr (x.drop (i + 1)) (x.getD i 0)
    obtain ⟨k, rfl⟩ := le_ex (show 1 ≤ k by omega)
    rw [show ((i + 1 : Nat) : Int) - 1 = (i : Int) by omega, impl_valueAt.g4, if_pos (by omega), inI_at z (by omega), gd_ok z (by omega), w64_id (x := horn p r (x.drop (i + 1)) * r) (by omega) (by omega), w64_id (x := _ + _) (by omega) (by omega), around_eq z _ (by omega) (by omega), w64_id (x := (i : Int) - 1) (by omega) (by omega)]
    have e : horn p r (x.drop i) = (horn p r (x.drop (i + 1)) * r + (x.getD i 0).tmod p) % p := by rw [drop_cons (by omega), horn]
    rw [← e]
    exact valueAt_g h1 h2 hr hx i (k + 1) (by omega) (by omega)
theorem valueAt_eq {p r : Nat} (h1 : 1 ≤ p) (h2 : p ≤ 1000) (hr : r ≤ 1000) {x : List Int} (hx : x.length ≤ 1000) (k : Nat) (hk : x.length + 3 ≤ k) (Φ : Int → A) : impl_valueAt z k x (r : Int) (p : Int) Φ = Φ (horn p r x) := by
  obtain ⟨k, rfl⟩ := le_ex (show 1 ≤ k by omega)
  simp only [impl_valueAt, step_succ]
  have h := valueAt_g z h1 h2 hr hx (K0 := Φ) x.length k (by omega) (by omega)
  rw [List.drop_length] at h
  rw [w64_id (by omega) (by omega)]
  exact h
theorem value07_g {p r : Nat} (h1 : 1 ≤ p) (h2 : p ≤ 1000) (hr : r ≤ 1000) {x : List Int} (hx : x.length ≤ 1000) {K0 : Int → A} : ∀ (i k : Nat), i ≤ x.length → i + 2 ≤ k →
    spec_l07Value.g4 z k x (r : Int) (p : Int) (horn p r (x.drop i)) ((i : Int) - 1) K0 = K0 (horn p r x)
  | i, 0, _, hk => absurd hk (by omega)
  | 0, k + 1, hi, hk => by
    rw [spec_l07Value.g4, if_neg (by omega)]
    rfl
  | i + 1, k + 1, hi, hk => by
    obtain ⟨⟨s1, s2⟩, s3, s4⟩ := horn_step h1 h2 hr (x.drop (i + 1)) (x.getD i 0)
    have t := tmod_lt (a := x.getD i 0) (n := (p : Int)) (by omega)
    rw [show ((i + 1 : Nat) : Int) - 1 = (i : Int) by omega, spec_l07Value.g4, if_pos (by omega), inI_at z (by omega), gd_ok z (by omega), gd_ok z (by omega), w64_id (x := horn p r (x.drop (i + 1)) * r) (by omega) (by omega), w64_id (x := _ + Int.tmod _ _) (by omega) (by omega), w64_id (x := _ + (p : Int)) (by omega) (by omega), w64_id (x := (i : Int) - 1) (by omega) (by omega)]
    have e : horn p r (x.drop i) = Int.tmod (horn p r (x.drop (i + 1)) * r + (x.getD i 0).tmod p + p) p := by
      rw [drop_cons (by omega), horn, Int.tmod_eq_emod_of_nonneg (a := _ + (p : Int)) (by omega), Int.add_emod_right]
    rw [← e]
    exact value07_g h1 h2 hr hx i k (by omega) (by omega)
theorem value07_eq {p r : Nat} (h1 : 1 ≤ p) (h2 : p ≤ 1000) (hr : r ≤ 1000) {x : List Int} (hx : x.length ≤ 1000) (k : Nat) (hk : x.length + 3 ≤ k) (Φ : Int → A) : spec_l07Value z k x (r : Int) (p : Int) Φ = Φ (horn p r x) := by
  obtain ⟨k, rfl⟩ := le_ex (show 1 ≤ k by omega)
  simp only [spec_l07Value, step_succ]
  have h := value07_g z h1 h2 hr hx (K0 := Φ) x.length k (by omega) (by omega)
  rw [List.drop_length] at h
  rw [w64_id (by omega) (by omega)]
  exact h
end
end Go.Proofs.Ytefdcoeidpbcjaa.F
/- Facts on the functions of places: powers. -/
namespace Go.Proofs.Ytefdcoeidpbcjaa.F
open Go.RowKit Go.Proofs.Ytefdcoeidpbcjaa.R
set_option linter.unusedVariables false
set_option linter.unusedSimpArgs false
theorem tmodN (m n : Nat) : Int.tmod (m : Int) (n : Int) = ((m % n : Nat) : Int) := by rw [Int.tmod_eq_emod_of_nonneg (by omega)]; rfl
theorem tdivN (m n : Nat) : Int.tdiv (m : Int) (n : Int) = ((m / n : Nat) : Int) := by rw [Int.tdiv_eq_ediv_of_nonneg (by omega)]; rfl
theorem pow_odd {p b c e : Nat} (h : e % 2 = 1) : (c * b % p) * (b * b % p) ^ (e / 2) % p = c * b ^ e % p := by
  have he : e = 2 * (e / 2) + 1 := by omega
  rw [Nat.mul_mod, Nat.mod_mod, ← Nat.pow_mod, ← Nat.mul_mod]
  congr 1
  rw [← Nat.pow_two, ← Nat.pow_mul, Nat.mul_assoc, Nat.mul_comm b, ← Nat.pow_succ]
  rw [show (2 * (e / 2)).succ = e by omega]
theorem pow_even {p b c e : Nat} (h : ¬ e % 2 = 1) : c * (b * b % p) ^ (e / 2) % p = c * b ^ e % p := by
  have he : e = 2 * (e / 2) := by omega
  rw [Nat.mul_mod, ← Nat.pow_mod, ← Nat.mul_mod]
  congr 1
  rw [← Nat.pow_two, ← Nat.pow_mul, ← he]
section
variable {A : Type} (z : A)
theorem power_g {p : Nat} (h1 : 1 ≤ p) (h2 : p ≤ 1000) {K0 : Int → A} : ∀ (k e b c : Nat), e ≤ 1000000 → e + 1 ≤ k → b < p → c < p →
    impl_power.g4 z k (b : Int) (e : Int) (p : Int) (c : Int) K0 = K0 ((c * b ^ e % p : Nat) : Int)
  | 0, e, b, c, _, hk, _, _ => absurd hk (by omega)
  | k + 1, e, b, c, he, hk, hb, hc => by
    rw [impl_power.g4]
    by_cases h0 : 0 < e
    · have bb : b * b ≤ 1000 * 1000 := Nat.mul_le_mul (by omega) (by omega)
      have cb : c * b ≤ 1000 * 1000 := Nat.mul_le_mul (by omega) (by omega)
      rw [if_pos (by omega), show (2 : Int) = ((2 : Nat) : Int) from rfl, tmodN, tdivN, ← Int.natCast_mul, ← Int.natCast_mul, w64_id (x := ((b * b : Nat) : Int)) (by omega) (by omega), w64_id (x := ((c * b : Nat) : Int)) (by omega) (by omega), w64_id (x := ((e / 2 : Nat) : Int)) (by omega) (by omega), tmodN, tmodN]
      by_cases h : e % 2 = 1
      · rw [if_pos (by omega), gd_ok z (by omega), gd_ok z (by omega), power_g h1 h2 k (e / 2) _ _ (by omega) (by omega) (Nat.mod_lt _ h1) (Nat.mod_lt _ h1), pow_odd h]
      · rw [if_neg (by omega), gd_ok z (by omega), power_g h1 h2 k (e / 2) _ _ (by omega) (by omega) (Nat.mod_lt _ h1) hc, pow_even h]
    · have : e = 0 := by omega
      subst this
      rw [if_neg (by omega), Nat.pow_zero, Nat.mul_one, Nat.mod_eq_of_lt hc]
theorem power_eq {p : Nat} (h1 : 1 ≤ p) (h2 : p ≤ 1000) (b e : Nat) (he : e ≤ 1000000) (k : Nat) (hk : e + 3 ≤ k) (Φ : Int → A) : impl_power z k (b : Int) (e : Int) (p : Int) Φ = Φ ((b ^ e % p : Nat) : Int) := by
  obtain ⟨k, rfl⟩ := le_ex (show 2 ≤ k by omega)
  simp only [impl_power, step_succ]
  rw [gd_ok z (by omega), around_eq z _ (by omega) (by omega), ← Int.natCast_emod, show (1 : Int) = ((1 : Nat) : Int) from rfl, tmodN, power_g z h1 h2 _ e _ _ he (by omega) (Nat.mod_lt _ h1) (Nat.mod_lt _ h1)]
  congr 2
  rw [Nat.mul_mod, Nat.mod_mod, ← Nat.pow_mod, ← Nat.mul_mod, Nat.one_mul]
theorem power07_g {p : Nat} (h1 : 1 ≤ p) (h2 : p ≤ 1000) {b : Nat} (hb : b ≤ 1000) {K0 : Int → A} : ∀ (e c k : Nat), e ≤ 1000000 → e + 1 ≤ k → c < p →
    spec_l07Power.g3 z k (p : Int) (b : Int) (e : Int) (c : Int) K0 = K0 ((c * b ^ e % p : Nat) : Int)
  | e, c, 0, _, hk, _ => absurd hk (by omega)
  | 0, c, k + 1, he, hk, hc => by
    rw [spec_l07Power.g3, if_neg (by omega), Nat.pow_zero, Nat.mul_one, Nat.mod_eq_of_lt hc]
  | e + 1, c, k + 1, he, hk, hc => by
    have cb : c * b ≤ 1000 * 1000 := Nat.mul_le_mul (by omega) (by omega)
    rw [spec_l07Power.g3, if_pos (by omega), gd_ok z (by omega), ← Int.natCast_mul, w64_id (x := ((c * b : Nat) : Int)) (by omega) (by omega), tmodN, show w64 (((e + 1 : Nat) : Int) - 1) = (e : Int) by rw [w64_id (by omega) (by omega)]; omega, power07_g h1 h2 hb e _ k (by omega) (by omega) (Nat.mod_lt _ h1)]
    congr 2
    rw [Nat.mul_mod, Nat.mod_mod, ← Nat.mul_mod, Nat.mul_assoc, Nat.mul_comm b, ← Nat.pow_succ]
theorem power07_eq {p : Nat} (h1 : 2 ≤ p) (h2 : p ≤ 1000) {b : Nat} (hb : b ≤ 1000) (e : Nat) (he : e ≤ 1000000) (k : Nat) (hk : e + 2 ≤ k) (Φ : Int → A) : spec_l07Power z k (p : Int) (b : Int) (e : Int) Φ = Φ ((b ^ e % p : Nat) : Int) := by
  obtain ⟨k, rfl⟩ := le_ex (show 1 ≤ k by omega)
  simp only [spec_l07Power, step_succ]
  have := power07_g z (show 1 ≤ p by omega) h2 hb (K0 := Φ) e 1 k he (by omega) (by omega)
  rw [Nat.one_mul] at this
  exact this
end
end Go.Proofs.Ytefdcoeidpbcjaa.F
/- Facts on the functions of places: primes, roots. -/
namespace Go.Proofs.Ytefdcoeidpbcjaa.F
open Go.RowKit Go.Proofs.Ytefdcoeidpbcjaa.R
set_option linter.unusedVariables false
set_option linter.unusedSimpArgs false
def noDiv (p : Nat) : Nat → Nat → Bool
  | 0, _ => true
  | d + 1, q => if q * q ≤ p then (if p % q = 0 then false else noDiv p d (q + 1)) else true
def isP (p : Nat) : Bool := decide (3 ≤ p ∧ p ≤ 61) && noDiv p p 2
def rootsFrom (F : List Int) (p : Nat) : Nat → Nat → List Int
  | 0, _ => []
  | d + 1, r => if horn p r F = 0 then (r : Int) :: rootsFrom F p d (r + 1) else rootsFrom F p d (r + 1)
theorem rootsFrom_length (F : List Int) (p : Nat) : ∀ d r, (rootsFrom F p d r).length ≤ d
  | 0, r => Nat.le_refl _
  | d + 1, r => by
    have := rootsFrom_length F p d (r + 1)
    unfold rootsFrom
    split
    · rw [List.length_cons]; omega
    · omega
section
variable {A : Type} (z : A)
theorem isPrime_g {p : Nat} (hp : p ≤ 1000) {K0 : Bool → A} {K1 : A} : ∀ (d q k : Nat), q + d = p + 2 → 2 ≤ q → d + 1 ≤ k →
    impl_isPrime.g3 z k (p : Int) (q : Int) K0 K1 = bif noDiv p d q then K1 else K0 false
  | d, q, 0, _, _, hk => absurd hk (by omega)
  | 0, q, k + 1, hq, h2, hk => by
    have hq2 : 2 * q ≤ q * q := Nat.mul_le_mul_right q h2
    have hq3 : q * q ≤ 1002 * 1002 := Nat.mul_le_mul (by omega) (by omega)
    rw [impl_isPrime.g3, ← Int.natCast_mul, w64_id (by omega) (by omega), if_neg (by omega)]
    rfl
  | d + 1, q, k + 1, hq, h2, hk => by
    have hq3 : q * q ≤ 1002 * 1002 := Nat.mul_le_mul (by omega) (by omega)
    rw [impl_isPrime.g3, ← Int.natCast_mul, w64_id (by omega) (by omega), noDiv]
    by_cases c : q * q ≤ p
    · rw [if_pos (by omega), if_pos c, gd_ok z (by omega), tmodN]
      by_cases e : p % q = 0
      · rw [if_pos (by omega), if_pos e]; rfl
      · rw [if_neg (by omega), if_neg e, w64_up (by omega), isPrime_g hp d (q + 1) k (by omega) (by omega) (by omega)]
    · rw [if_neg (by omega), if_neg c]; rfl
theorem isPrime_eq {p : Nat} (hp : p ≤ 1000) (k : Nat) (hk : p + 5 ≤ k) (Φ : Bool → A) : impl_isPrime z k (p : Int) Φ = Φ (isP p) := by
  obtain ⟨k, rfl⟩ := le_ex (show 2 ≤ k by omega)
  simp only [impl_isPrime, step_succ]
  have h := isPrime_g z hp (K0 := Φ) (K1 := impl_within z (k + 1) (p : Int) 3 61 Φ) p 2 (k + 1) (by omega) (by omega) (by omega)
  refine Eq.trans h ?_
  rw [within_eq]
  unfold isP
  rw [show decide ((3 : Int) ≤ (p : Int) ∧ (p : Int) ≤ 61) = decide (3 ≤ p ∧ p ≤ 61) by
    by_cases c : 3 ≤ p ∧ p ≤ 61
    · rw [decide_eq_true c, decide_eq_true (by omega)]
    · rw [decide_eq_false c, decide_eq_false (by omega)]]
  cases noDiv p p 2 <;> simp
theorem prime03_g {p : Nat} (hp : p ≤ 1000) {K0 : Bool → A} {K1 : A} : ∀ (d q k : Nat), q + d = p + 2 → 2 ≤ q → d + 1 ≤ k →
    spec_l03Prime.g6 z k (p : Int) (q : Int) K0 K1 = bif noDiv p d q then K1 else K0 false
  | d, q, 0, _, _, hk => absurd hk (by omega)
  | 0, q, k + 1, hq, h2, hk => by
    have hq2 : 2 * q ≤ q * q := Nat.mul_le_mul_right q h2
    have hq3 : q * q ≤ 1002 * 1002 := Nat.mul_le_mul (by omega) (by omega)
    rw [spec_l03Prime.g6, ← Int.natCast_mul, w64_id (by omega) (by omega), if_neg (by omega)]
    rfl
  | d + 1, q, k + 1, hq, h2, hk => by
    have hq3 : q * q ≤ 1002 * 1002 := Nat.mul_le_mul (by omega) (by omega)
    rw [spec_l03Prime.g6, ← Int.natCast_mul, w64_id (by omega) (by omega), noDiv]
    by_cases c : q * q ≤ p
    · rw [if_pos (by omega), if_pos c, gd_ok z (by omega), tmodN]
      by_cases e : p % q = 0
      · rw [if_pos (by omega), if_pos e]; rfl
      · rw [if_neg (by omega), if_neg e, w64_up (by omega), prime03_g hp d (q + 1) k (by omega) (by omega) (by omega)]
    · rw [if_neg (by omega), if_neg c]; rfl
theorem prime03_eq {p : Nat} (hp : p ≤ 1000) (k : Nat) (hk : p + 5 ≤ k) (Φ : Bool → A) : spec_l03Prime z k (p : Int) Φ = Φ (isP p) := by
  obtain ⟨k, rfl⟩ := le_ex (show 2 ≤ k by omega)
  simp only [spec_l03Prime, step_succ]
  rw [in_eq]
  unfold isP
  by_cases c : 3 ≤ p ∧ p ≤ 61
  · rw [decide_eq_true c, decide_eq_true (show (3 : Int) ≤ (p : Int) ∧ (p : Int) ≤ 61 by omega), Bool.not_true, cond_false, Bool.true_and]
    have h := prime03_g z hp (K0 := Φ) (K1 := Φ true) p 2 (k + 1) (by omega) (by omega) (by omega)
    refine Eq.trans h ?_
    cases noDiv p p 2 <;> rfl
  · rw [decide_eq_false c, decide_eq_false (show ¬ ((3 : Int) ≤ (p : Int) ∧ (p : Int) ≤ 61) by omega)]
    rfl
theorem rootsFor_g {p : Nat} (h1 : 1 ≤ p) (hp : p ≤ 1000) {F : List Int} (hF : F.length ≤ 100) {K0 : List Int → A} : ∀ (d r k : Nat) (acc : List Int), r + d = p → acc.length ≤ r → d + 110 ≤ k →
    impl_rootsFor.g7 z k (p : Int) (r : Int) acc F K0 = K0 (acc ++ rootsFrom F p d r)
  | d, r, 0, acc, _, _, hk => absurd hk (by omega)
  | 0, r, k + 1, acc, hr, ha, hk => by
    rw [impl_rootsFor.g7, if_neg (by omega), rootsFrom, List.append_nil]
  | d + 1, r, k + 1, acc, hr, ha, hk => by
    rw [impl_rootsFor.g7, if_pos (by omega), valueAt_eq z h1 hp (by omega) (by omega) k (by omega), rootsFrom]
    by_cases c : horn p r F = 0
    · rw [if_pos c, if_pos c, apI_ok z (by omega), w64_up (by omega), rootsFor_g h1 hp hF d (r + 1) k _ (by omega) (by rw [List.length_append]; simp; omega) (by omega), List.append_assoc]
      rfl
    · rw [if_neg c, if_neg c, w64_up (by omega), rootsFor_g h1 hp hF d (r + 1) k _ (by omega) (by omega) (by omega)]
theorem roots07_g {p : Nat} (h1 : 1 ≤ p) (hp : p ≤ 1000) {F : List Int} (hF : F.length ≤ 100) {K0 : List Int → A} : ∀ (d r k : Nat) (acc : List Int), r + d = p → acc.length ≤ r → d + 110 ≤ k →
    spec_l07Roots.g4 z k (p : Int) (r : Int) acc F K0 = K0 (acc ++ rootsFrom F p d r)
  | d, r, 0, acc, _, _, hk => absurd hk (by omega)
  | 0, r, k + 1, acc, hr, ha, hk => by
    rw [spec_l07Roots.g4, if_neg (by omega), rootsFrom, List.append_nil]
  | d + 1, r, k + 1, acc, hr, ha, hk => by
    rw [spec_l07Roots.g4, if_pos (by omega), value07_eq z h1 hp (by omega) (by omega) k (by omega), rootsFrom]
    by_cases c : horn p r F = 0
    · rw [if_pos c, if_pos c, apI_ok z (by omega), w64_up (by omega), roots07_g h1 hp hF d (r + 1) k _ (by omega) (by rw [List.length_append]; simp; omega) (by omega), List.append_assoc]
      rfl
    · rw [if_neg c, if_neg c, w64_up (by omega), roots07_g h1 hp hF d (r + 1) k _ (by omega) (by omega) (by omega)]
end
end Go.Proofs.Ytefdcoeidpbcjaa.F
/- Facts on the functions of places: which primes split, places. -/
namespace Go.Proofs.Ytefdcoeidpbcjaa.F
open Go.RowKit Go.Proofs.Ytefdcoeidpbcjaa.R
set_option linter.unusedVariables false
set_option linter.unusedSimpArgs false
def divOut (p : Nat) : Nat → Nat → Nat → Nat × Nat
  | 0, acc, m => (acc, m)
  | d + 1, acc, m => if m % p = 0 then divOut p d (acc * p) (m / p) else (acc, m)
def ordF (p m : Nat) : Nat → Nat → Nat → Option Nat
  | 0, _, _ => none
  | d + 1, c, x => if x = 1 % m then some c else ordF p m d (c + 1) (x * p % m)
def fully (n p : Nat) : Bool := decide (n % p ≠ 0) && decide ((p - 1) % n = 0)
def splitOk (n p : Nat) : Bool :=
  let a := divOut p 16 1 n
  decide (1 ≤ a.1 ∧ a.1 ≤ 16) && (decide (1 ≤ a.2 ∧ a.2 ≤ 16) && (match ordF p a.2 20 1 (p % a.2) with
    | some f => decide (1 ≤ f ∧ f ≤ 20) && (fully n p == (decide (cycD a.1 = 1) && (decide (f = 1) && decide (n % p ≠ 0))))
    | none => false))
theorem split_all : ((List.range 16).all fun q => (List.range 62).all fun p => !isP p || splitOk (q + 1) p) = true := by decide +kernel
theorem split_ok {n p : Nat} (h1 : 1 ≤ n) (h2 : n ≤ 16) (hp : isP p = true) : splitOk n p = true := by
  have hp61 : 3 ≤ p ∧ p ≤ 61 := by
    unfold isP at hp
    rw [Bool.and_eq_true, decide_eq_true_eq] at hp
    exact hp.1
  have h := List.all_eq_true.1 (List.all_eq_true.1 split_all (n - 1) (List.mem_range.2 (by omega))) p (List.mem_range.2 (by omega))
  rw [hp] at h
  have e : n - 1 + 1 = n := by omega
  rw [e] at h
  simpa using h
theorem isP_bd {p : Nat} (hp : isP p = true) : 3 ≤ p ∧ p ≤ 61 := by
  unfold isP at hp
  rw [Bool.and_eq_true, decide_eq_true_eq] at hp
  exact hp.1
section
variable {A : Type} (z : A)
theorem split_g3 {p : Nat} (hp : 2 ≤ p) (hp2 : p ≤ 1000) {K0 : Int → Int → A} : ∀ (d k acc m : Nat), m ≤ d → d ≤ 1000 → 1 ≤ m → acc * m ≤ 1000 → d + 1 ≤ k →
    impl_splitting.g3 z k (p : Int) (acc : Int) (m : Int) K0 = K0 ((divOut p d acc m).1 : Int) ((divOut p d acc m).2 : Int)
  | d, 0, acc, m, _, _, _, _, hk => absurd hk (by omega)
  | 0, k + 1, acc, m, hm, _, h1, _, hk => absurd hm (by omega)
  | d + 1, k + 1, acc, m, hm, hd, h1, ha, hk => by
    rw [impl_splitting.g3, gd_ok z (by omega), tmodN, divOut]
    by_cases c : m % p = 0
    · have e := Nat.div_add_mod m p
      rw [c, Nat.add_zero] at e
      have hq : 1 ≤ m / p := by
        rcases Nat.eq_zero_or_pos (m / p) with h0 | h0
        · rw [h0] at e; omega
        · exact h0
      have hq2 : 2 * (m / p) ≤ p * (m / p) := Nat.mul_le_mul_right _ hp
      have ha2 : acc * p * (m / p) ≤ 1000 := by rw [Nat.mul_assoc, e]; exact ha
      have ha3 : acc * p * 1 ≤ acc * p * (m / p) := Nat.mul_le_mul_left _ hq
      rw [if_pos (by omega), if_pos c, gd_ok z (by omega), ← Int.natCast_mul, tdivN, w64_id (x := ((acc * p : Nat) : Int)) (by omega) (by omega), w64_id (x := ((m / p : Nat) : Int)) (by omega) (by omega), split_g3 hp hp2 d k _ _ (by omega) (by omega) hq ha2 (by omega)]
    · rw [if_neg (by omega), if_neg c]
theorem split_g10 {p m : Nat} (hp : p ≤ 1000) (m1 : 1 ≤ m) (m2 : m ≤ 1000) {K0 : Int → A} {v : Nat} : ∀ (d k c x : Nat), ordF p m d c x = some v → c + d ≤ 1000 → x < m → d ≤ k →
    impl_splitting.g10 z k (p : Int) (m : Int) (c : Int) (x : Int) K0 = K0 (v : Int)
  | 0, k, c, x, h, _, _, _ => by cases h
  | d + 1, 0, c, x, _, _, _, hk => absurd hk (by omega)
  | d + 1, k + 1, c, x, h, hc, hx, hk => by
    rw [ordF] at h
    rw [impl_splitting.g10, gd_ok z (by omega), show (1 : Int) = ((1 : Nat) : Int) from rfl, tmodN]
    by_cases e : x = 1 % m
    · rw [if_pos e] at h
      cases h
      rw [if_neg (by omega)]
    · rw [if_neg e] at h
      have hxp : x * p ≤ 1000 * 1000 := Nat.mul_le_mul (by omega) (by omega)
      rw [if_pos (by omega), gd_ok z (by omega), ← Int.natCast_mul, w64_id (x := ((x * p : Nat) : Int)) (by omega) (by omega), tmodN, show ((1 : Nat) : Int) = 1 from rfl, w64_up (by omega), split_g10 hp m1 m2 d k _ _ h (by omega) (Nat.mod_lt _ m1) (by omega)]
theorem splits_eq {n p : Nat} (h1 : 1 ≤ n) (h2 : n ≤ 16) (hp : isP p = true) (k : Nat) (hk : 100 ≤ k) (Φ : Bool → A) : impl_splits z k (n : Int) (p : Int) Φ = Φ (fully n p) := by
  obtain ⟨p1, p2⟩ := isP_bd hp
  have T := split_ok h1 h2 hp
  unfold splitOk at T
  simp only [Bool.and_eq_true, decide_eq_true_eq] at T
  obtain ⟨⟨a1, a2⟩, ⟨b1, b2⟩, T⟩ := T
  cases e : ordF p (divOut p 16 1 n).2 20 1 (p % (divOut p 16 1 n).2) with
  | none => rw [e] at T; cases T
  | some f =>
    rw [e] at T
    simp only [Bool.and_eq_true, decide_eq_true_eq, beq_iff_eq] at T
    obtain ⟨⟨f1, f2⟩, T⟩ := T
    obtain ⟨k, rfl⟩ := le_ex (show 2 ≤ k by omega)
    simp only [impl_splits, impl_splitting, step_succ]
    have hs := split_g3 z (show 2 ≤ p by omega) (by omega) (K0 := fun v1 v2 =>
      gd z (v2 ≠ 0) <| impl_splitting.g10 z k (p : Int) v2 1 ((p : Int).tmod v2) (fun v3 =>
        impl_totient z k v1 fun v4 => impl_totient z k v2 fun v5 => gd z (v3 ≠ 0) <|
          if v4 = 1 then (if v3 = 1 then gd z ((p : Int) ≠ 0) <| Φ (decide (((n : Int).tmod p) ≠ 0)) else Φ false) else Φ false)) 16 k 1 n h2 (by omega) h1 (by omega) (by omega)
    refine Eq.trans hs ?_
    generalize divOut p 16 1 n = q at *
    rw [gd_ok z (by omega), tmodN]
    have ho := split_g10 z (p := p) (m := q.2) (by omega) b1 (by omega) (K0 := fun v3 =>
        impl_totient z k (q.1 : Int) fun v4 => impl_totient z k (q.2 : Int) fun v5 => gd z (v3 ≠ 0) <|
          if v4 = 1 then (if v3 = 1 then gd z ((p : Int) ≠ 0) <| Φ (decide (((n : Int).tmod p) ≠ 0)) else Φ false) else Φ false) 20 k 1 (p % q.2) e (by omega) (Nat.mod_lt _ b1) (by omega)
    refine Eq.trans ho ?_
    rw [totient_eq z a1 a2 k (by omega), totient_eq z b1 b2 k (by omega), gd_ok z (by omega), T, tmodN]
    by_cases c1 : cycD q.1 = 1
    · rw [if_pos (by omega), decide_eq_true c1, Bool.true_and]
      by_cases c2 : f = 1
      · rw [if_pos (by omega), gd_ok z (by omega), decide_eq_true c2, Bool.true_and]
        congr 1
        by_cases c3 : n % p ≠ 0
        · rw [decide_eq_true c3, decide_eq_true (by omega)]
        · rw [decide_eq_false c3, decide_eq_false (by omega)]
      · rw [if_neg (by omega), decide_eq_false c2]; rfl
    · rw [if_neg (by omega), decide_eq_false c1]; rfl
theorem fully07_eq {n p : Nat} (h1 : 1 ≤ n) (h2 : n ≤ 16) (hp : isP p = true) (k : Nat) (hk : 1 ≤ k) (Φ : Bool → A) : spec_l07Fully z k (n : Int) (p : Int) Φ = Φ (fully n p) := by
  obtain ⟨p1, p2⟩ := isP_bd hp
  obtain ⟨k, rfl⟩ := le_ex hk
  simp only [spec_l07Fully, step_succ]
  rw [gd_ok z (by omega), tmodN]
  unfold fully
  by_cases c : n % p ≠ 0
  · rw [if_pos (by omega), gd_ok z (by omega), show w64 ((p : Int) - 1) = ((p - 1 : Nat) : Int) by rw [w64_id (by omega) (by omega)]; omega, tmodN, decide_eq_true c, Bool.true_and]
    congr 1
    by_cases c3 : (p - 1) % n = 0
    · rw [decide_eq_true c3, decide_eq_true (by omega)]
    · rw [decide_eq_false c3, decide_eq_false (by omega)]
  · rw [if_neg (by omega), decide_eq_false c]; rfl
end
end Go.Proofs.Ytefdcoeidpbcjaa.F
/- Facts on the functions of places: places. -/
namespace Go.Proofs.Ytefdcoeidpbcjaa.F
open Go.RowKit Go.Proofs.Ytefdcoeidpbcjaa.R
set_option linter.unusedVariables false
set_option linter.unusedSimpArgs false
theorem icyclo_tab : ∀ n : Nat, 1 ≤ n → n ≤ 16 → ∀ (j : Nat) (A : Type) (z : A) (Φ : List Int → A), impl_cyclotomic z (j + 200) (n : Int) Φ = Φ (cycF n) :=
  by16 (fun _ _ _ _ => by kernel_rfl) (fun _ _ _ _ => by kernel_rfl) (fun _ _ _ _ => by kernel_rfl) (fun _ _ _ _ => by kernel_rfl) (fun _ _ _ _ => by kernel_rfl) (fun _ _ _ _ => by kernel_rfl) (fun _ _ _ _ => by kernel_rfl) (fun _ _ _ _ => by kernel_rfl) (fun _ _ _ _ => by kernel_rfl) (fun _ _ _ _ => by kernel_rfl) (fun _ _ _ _ => by kernel_rfl) (fun _ _ _ _ => by kernel_rfl) (fun _ _ _ _ => by kernel_rfl) (fun _ _ _ _ => by kernel_rfl) (fun _ _ _ _ => by kernel_rfl) (fun _ _ _ _ => by kernel_rfl)
theorem mem_rootsFrom {F : List Int} {p : Nat} {x : Int} : ∀ (d r : Nat), x ∈ rootsFrom F p d r ↔ ∃ j : Nat, x = j ∧ r ≤ j ∧ j < r + d ∧ horn p j F = 0
  | 0, r => by
    unfold rootsFrom
    constructor
    · intro h; cases h
    · rintro ⟨j, _, h1, h2, _⟩; omega
  | d + 1, r => by
    unfold rootsFrom
    have ih := mem_rootsFrom (F := F) (p := p) (x := x) d (r + 1)
    by_cases c : horn p r F = 0
    · rw [if_pos c, List.mem_cons, ih]
      constructor
      · rintro (h | ⟨j, h1, h2, h3, h4⟩)
        · exact ⟨r, h, by omega, by omega, c⟩
        · exact ⟨j, h1, by omega, by omega, h4⟩
      · rintro ⟨j, h1, h2, h3, h4⟩
        by_cases e : j = r
        · left; rw [h1, e]
        · right; exact ⟨j, h1, by omega, by omega, h4⟩
    · rw [if_neg c, ih]
      constructor
      · rintro ⟨j, h1, h2, h3, h4⟩; exact ⟨j, h1, by omega, by omega, h4⟩
      · rintro ⟨j, h1, h2, h3, h4⟩
        refine ⟨j, h1, ?_, by omega, h4⟩
        by_cases e : j = r
        · rw [e] at h4; exact absurd h4 c
        · omega
/-- n, p and r are a place: p splits wholly, r is a root modulo p. -/
def isPl (n : Int) (p : Nat) (r : Int) : Bool := decide (1 ≤ n ∧ n ≤ 16) && (isP p && (fully n.toNat p && decide (r ∈ rootsFrom (cycF n.toNat) p (p - 1) 1)))
section
variable {A : Type} (z : A)
theorem indexOf_g {l : List Int} (hl : l.length ≤ 1000) (v : Int) {K0 : Int → A} {K1 Kt : A} (hK : ∀ i : Nat, K0 (i : Int) = Kt) : ∀ (d i k : Nat), i + d = l.length → d + 1 ≤ k →
    slices_Index_Sint64_int64.g3 z k l v (l.length : Int) (i : Int) K0 K1 = bif decide (v ∈ l.drop i) then Kt else K1
  | d, i, 0, _, hk => absurd hk (by omega)
  | 0, i, k + 1, hi, hk => by
    rw [slices_Index_Sint64_int64.g3, if_neg (by omega), List.drop_of_length_le (by omega)]
    rfl
  | d + 1, i, k + 1, hi, hk => by
    rw [slices_Index_Sint64_int64.g3, if_pos (by omega), inI_at z (by omega), drop_cons (by omega)]
    by_cases c : v = l.getD i 0
    · rw [if_pos c, decide_eq_true (by rw [c]; exact List.mem_cons_self), hK]; rfl
    · rw [if_neg c, w64_up (by omega), indexOf_g hl v hK d (i + 1) k (by omega) (by omega)]
      congr 1
      by_cases e : v ∈ l.drop (i + 1)
      · rw [decide_eq_true e, decide_eq_true (List.mem_cons_of_mem _ e)]
      · rw [decide_eq_false e, decide_eq_false (fun h => by
          rcases List.mem_cons.1 h with h | h
          · exact c h
          · exact e h)]
theorem containsOf_eq {l : List Int} (hl : l.length ≤ 1000) (v : Int) (k : Nat) (hk : l.length + 5 ≤ k) (Φ : Bool → A) : slices_Contains_Sint64_int64 z k l v Φ = Φ (decide (v ∈ l)) := by
  obtain ⟨k, rfl⟩ := le_ex (show 2 ≤ k by omega)
  simp only [slices_Contains_Sint64_int64, slices_Index_Sint64_int64, step_succ]
  refine Eq.trans (indexOf_g z hl v (Kt := Φ true) (fun i => by rw [decide_eq_true (by omega)]) l.length 0 k (by omega) (by omega)) ?_
  rw [List.drop_zero]
  by_cases c : v ∈ l
  · rw [decide_eq_true c]; rfl
  · rw [decide_eq_false c, cond_false, decide_eq_false (by omega)]
end
end Go.Proofs.Ytefdcoeidpbcjaa.F
/- Facts on the functions of places: places, on both sides; residues. -/
namespace Go.Proofs.Ytefdcoeidpbcjaa.F
open Go.RowKit Go.Proofs.Ytefdcoeidpbcjaa.R
set_option linter.unusedVariables false
set_option linter.unusedSimpArgs false
section
variable {A : Type} (z : A)
theorem icyclo_eq {n : Nat} (h1 : 1 ≤ n) (h2 : n ≤ 16) (k : Nat) (hk : 200 ≤ k) (Φ : List Int → A) : impl_cyclotomic z k (n : Int) Φ = Φ (cycF n) := by
  obtain ⟨j, rfl⟩ := le_ex hk
  exact icyclo_tab n h1 h2 j A z Φ
theorem isPlace_eq (n : Int) {p : Nat} (hp : p ≤ 1000) (r : Int) (k : Nat) (hk : 2000 ≤ k) (Φ : Bool → A) : impl_isPlace z k n (p : Int) r Φ = Φ (isPl n p r) := by
  obtain ⟨k, rfl⟩ := le_ex (show 4 ≤ k by omega)
  simp only [impl_isPlace, impl_rootsFor, step_succ]
  rw [isOrder_eq]
  unfold isPl
  by_cases c : 1 ≤ n ∧ n ≤ 16
  · obtain ⟨n, rfl⟩ : ∃ j : Nat, n = j := ⟨n.toNat, by omega⟩
    have C := cyc_facts (n := n) (by omega) (by omega)
    have := C.lenF
    have := C.le12
    rw [decide_eq_true c, Bool.not_true, cond_false, Bool.true_and, isPrime_eq z hp _ (by omega), Int.toNat_natCast]
    cases h : isP p with
    | false => rfl
    | true =>
      obtain ⟨p1, p2⟩ := isP_bd h
      rw [Bool.not_true, cond_false, Bool.true_and, splits_eq z (by omega) (by omega) h _ (by omega)]
      cases h3 : fully n p with
      | false => rfl
      | true =>
        rw [Bool.not_true, cond_false, Bool.true_and, icyclo_eq z (by omega) (by omega) _ (by omega)]
        have hl := rootsFrom_length (cycF n) p (p - 1) 1
        refine Eq.trans (rootsFor_g z (p := p) (by omega) hp (by omega) (p - 1) 1 _ [] (by omega) (Nat.zero_le _) (by omega)) ?_
        rw [List.nil_append, cond_true, containsOf_eq z (by omega) r _ (by omega)]
  · rw [decide_eq_false c]
    rfl
theorem place07_eq (n : Int) {p : Nat} (hp : p ≤ 1000) (r : Int) (k : Nat) (hk : 2000 ≤ k) (Φ : Bool → A) : spec_l07Place z k n (p : Int) r Φ = Φ (isPl n p r) := by
  obtain ⟨k, rfl⟩ := le_ex (show 3 ≤ k by omega)
  simp only [spec_l07Place, spec_l07Code, step_succ]
  rw [in_eq]
  unfold isPl
  by_cases c : 1 ≤ n ∧ n ≤ 16
  · obtain ⟨n, rfl⟩ : ∃ j : Nat, n = j := ⟨n.toNat, by omega⟩
    have C := cyc_facts (n := n) (by omega) (by omega)
    have := C.lenF
    have := C.le12
    rw [decide_eq_true c, Bool.not_true, cond_false, Bool.true_and, prime03_eq z hp _ (by omega), Int.toNat_natCast]
    cases h : isP p with
    | false => rfl
    | true =>
      obtain ⟨p1, p2⟩ := isP_bd h
      rw [Bool.not_true, cond_false, if_pos trivial, Bool.true_and, fully07_eq z (by omega) (by omega) h _ (by omega)]
      cases h3 : fully n p with
      | false => rfl
      | true =>
        rw [cond_true, Bool.true_and, show w64 ((p : Int) - 1) = ((p - 1 : Nat) : Int) by rw [w64_id (by omega) (by omega)]; omega, in_eq]
        by_cases c2 : 1 ≤ r ∧ r ≤ ((p - 1 : Nat) : Int)
        · obtain ⟨r, rfl⟩ : ∃ j : Nat, r = j := ⟨r.toNat, by omega⟩
          rw [decide_eq_true c2, cond_true, cyclo_eq z (by omega) (by omega) _ (by omega), value07_eq z (by omega) hp (by omega) (by omega) _ (by omega)]
          congr 1
          by_cases c3 : horn p r (cycF n) = 0
          · rw [decide_eq_true c3, decide_eq_true (mem_rootsFrom _ _ |>.2 ⟨r, rfl, by omega, by omega, c3⟩)]
          · rw [decide_eq_false c3, decide_eq_false (fun h => by
              obtain ⟨j, h1, _, _, h4⟩ := (mem_rootsFrom _ _).1 h
              have : j = r := by omega
              rw [this] at h4
              exact c3 h4)]
        · rw [decide_eq_false c2, cond_false, decide_eq_false (fun h => by
            obtain ⟨j, h1, _, _, h4⟩ := (mem_rootsFrom _ _).1 h
            omega)]
  · rw [decide_eq_false c]
    rfl
end
end Go.Proofs.Ytefdcoeidpbcjaa.F
/- Facts on the functions of places: residues and moved places. -/
namespace Go.Proofs.Ytefdcoeidpbcjaa.F
open Go.RowKit Go.Proofs.Ytefdcoeidpbcjaa.R
set_option linter.unusedVariables false
set_option linter.unusedSimpArgs false
def plC (n : Int) (x : List Int) (p : Nat) (r : Int) : Int := bif isC n x then (bif isPl n p r then 0 else 2) else 1
def res2 (n : Int) (x : List Int) (p : Nat) (r : Int) : Int × Int := if plC n x p r ≠ 0 then (0, plC n x p r) else (horn p r.toNat x, 0)
def move2 (n : Int) (p : Nat) (r a : Int) : Int × Int := bif isPl n p r then (if (1 ≤ a ∧ a ≤ n) ∧ Int.gcd a n = 1 then (((r.toNat ^ a.toNat % p : Nat) : Int), 0) else (0, 2)) else (0, 2)
theorem isPl_x {n : Int} {p : Nat} {r : Int} (h : isPl n p r = true) : ∃ m j : Nat, n = m ∧ r = j ∧ 1 ≤ m ∧ m ≤ 16 ∧ 3 ≤ p ∧ p ≤ 61 ∧ 1 ≤ j ∧ j < p ∧ isP p = true ∧ fully m p = true ∧ horn p j (cycF m) = 0 := by
  unfold isPl at h
  simp only [Bool.and_eq_true, decide_eq_true_eq] at h
  obtain ⟨h1, h2, h3, h4⟩ := h
  obtain ⟨p1, p2⟩ := isP_bd h2
  obtain ⟨j, e1, e2, e3, e4⟩ := (mem_rootsFrom _ _).1 h4
  exact ⟨n.toNat, j, by omega, e1, by omega, by omega, p1, p2, e2, by omega, h2, h3, e4⟩
theorem plC_zero {n : Int} {x : List Int} {p : Nat} {r : Int} (h : plC n x p r = 0) : isC n x = true ∧ isPl n p r = true := by
  unfold plC at h
  cases h1 : isC n x <;> cases h2 : isPl n p r <;> simp [h1, h2] at h
  exact ⟨rfl, rfl⟩
section
variable {A : Type} (z : A)
theorem placeCode_eq (n : Int) {x : List Int} (hx : x.length ≤ 1000) {p : Nat} (hp : p ≤ 1000) (r : Int) (k : Nat) (hk : 2100 ≤ k) (Φ : Int → A) : impl_placeCode z k n x (p : Int) r Φ = Φ (plC n x p r) := by
  obtain ⟨k, rfl⟩ := le_ex (show 1 ≤ k by omega)
  simp only [impl_placeCode, step_succ]
  rw [isCyclo_eq z n (by omega) k (by omega)]
  unfold plC
  cases h : isC n x with
  | false => rfl
  | true =>
    rw [Bool.not_true, cond_false, cond_true, isPlace_eq z n hp r k (by omega)]
    cases isPl n p r <;> rfl
theorem given07_eq (n : Int) {x : List Int} (hx : x.length ≤ 1000) {p : Nat} (hp : p ≤ 1000) (r : Int) (k : Nat) (hk : 2100 ≤ k) (Φ : Int → A) : spec_l07Given z k n x (p : Int) r Φ = Φ (plC n x p r) := by
  obtain ⟨k, rfl⟩ := le_ex (show 1 ≤ k by omega)
  simp only [spec_l07Given, step_succ]
  rw [is01_eq z n (by omega) k (by omega)]
  unfold plC
  cases h : isC n x with
  | false => rfl
  | true =>
    rw [Bool.not_true, cond_false, cond_true, place07_eq z n hp r k (by omega)]
    cases isPl n p r <;> rfl
theorem residueAt_eq (n : Int) {x : List Int} (hx : x.length ≤ 1000) {p : Nat} (hp : p ≤ 1000) (r : Int) (k : Nat) (hk : 2200 ≤ k) (Φ : Int → Int → A) : impl_ResidueAt z k n x (p : Int) r Φ = Φ (res2 n x p r).1 (res2 n x p r).2 := by
  obtain ⟨k, rfl⟩ := le_ex (show 1 ≤ k by omega)
  simp only [impl_ResidueAt, step_succ]
  rw [placeCode_eq z n hx hp r k (by omega)]
  unfold res2
  by_cases c : plC n x p r ≠ 0
  · rw [if_pos c, if_pos c]
  · obtain ⟨c1, c2⟩ := plC_zero (Decidable.of_not_not c)
    obtain ⟨m, j, rfl, rfl, h1, h2, h3, h4, h5, h6, _⟩ := isPl_x c2
    rw [if_neg c, if_neg c, valueAt_eq z (by omega) hp (by omega) hx k (by omega), Int.toNat_natCast]
theorem specResidueAt_eq (n : Int) {x : List Int} (hx : x.length ≤ 1000) {p : Nat} (hp : p ≤ 1000) (r : Int) (k : Nat) (hk : 2200 ≤ k) (Φ : Int → Int → A) : spec_ResidueAt z k n x (p : Int) r Φ = Φ (res2 n x p r).1 (res2 n x p r).2 := by
  obtain ⟨k, rfl⟩ := le_ex (show 1 ≤ k by omega)
  simp only [spec_ResidueAt, step_succ]
  rw [given07_eq z n hx hp r k (by omega)]
  unfold res2
  by_cases c : plC n x p r ≠ 0
  · rw [if_pos c, if_pos c]
  · obtain ⟨c1, c2⟩ := plC_zero (Decidable.of_not_not c)
    obtain ⟨m, j, rfl, rfl, h1, h2, h3, h4, h5, h6, _⟩ := isPl_x c2
    rw [if_neg c, if_neg c, value07_eq z (by omega) hp (by omega) hx k (by omega), Int.toNat_natCast]
theorem movePlace_eq (n : Int) {p : Nat} (hp : p ≤ 1000) (r a : Int) (k : Nat) (hk : 2200 ≤ k) (Φ : Int → Int → A) : impl_MovePlace z k n (p : Int) r a Φ = Φ (move2 n p r a).1 (move2 n p r a).2 := by
  obtain ⟨k, rfl⟩ := le_ex (show 1 ≤ k by omega)
  simp only [impl_MovePlace, step_succ]
  rw [isPlace_eq z n hp r k (by omega)]
  unfold move2
  cases h : isPl n p r with
  | false => rfl
  | true =>
    obtain ⟨m, j, rfl, rfl, h1, h2, h3, h4, h5, h6, _⟩ := isPl_x h
    rw [Bool.not_true, cond_false, cond_true, isPrimeTo_eq z h1 (by omega) a k (by omega)]
    by_cases c : (1 ≤ a ∧ a ≤ (m : Int)) ∧ Int.gcd a m = 1
    · obtain ⟨a, rfl⟩ : ∃ j : Nat, a = j := ⟨a.toNat, by omega⟩
      rw [decide_eq_true c, Bool.not_true, cond_false, if_pos c, power_eq z (by omega) hp _ _ (by omega) k (by omega), Int.toNat_natCast, Int.toNat_natCast]
    · rw [decide_eq_false c, Bool.not_false, cond_true, if_neg c]
theorem specMovePlace_eq (n : Int) {p : Nat} (hp : p ≤ 1000) (r a : Int) (k : Nat) (hk : 2200 ≤ k) (Φ : Int → Int → A) : spec_MovePlace z k n (p : Int) r a Φ = Φ (move2 n p r a).1 (move2 n p r a).2 := by
  obtain ⟨k, rfl⟩ := le_ex (show 2 ≤ k by omega)
  simp only [spec_MovePlace, step_succ]
  rw [place07_eq z n hp r _ (by omega)]
  unfold move2
  cases h : isPl n p r with
  | false => rfl
  | true =>
    obtain ⟨m, j, rfl, rfl, h1, h2, h3, h4, h5, h6, _⟩ := isPl_x h
    rw [Bool.not_true, cond_false, cond_true, in_eq]
    by_cases c : 1 ≤ a ∧ a ≤ (m : Int)
    · rw [decide_eq_true c, Bool.not_true, cond_false, sgcd_eq z (by omega) (by omega) _ (by omega)]
      by_cases g : Int.gcd a m = 1
      · obtain ⟨a, rfl⟩ : ∃ j : Nat, a = j := ⟨a.toNat, by omega⟩
        rw [if_neg (by omega), if_pos ⟨c, g⟩, power07_eq z (by omega) hp (by omega) _ (by omega) _ (by omega), Int.toNat_natCast, Int.toNat_natCast]
      · rw [if_pos (by omega), if_neg (fun h => g h.2)]
    · rw [decide_eq_false c, Bool.not_false, cond_true, if_neg (fun h => c h.1)]
end
end Go.Proofs.Ytefdcoeidpbcjaa.F
/- Facts on the functions of places: symbols. -/
namespace Go.Proofs.Ytefdcoeidpbcjaa.F
open Go.RowKit Go.Proofs.Ytefdcoeidpbcjaa.R
set_option linter.unusedVariables false
set_option linter.unusedSimpArgs false
def symF (p r t : Nat) : Nat → Nat → Option Nat
  | 0, _ => none
  | d + 1, i => if t = r ^ i % p then some i else symF p r t d (i + 1)
section
variable {A : Type} (z : A)
theorem symbol_g {p r v n : Nat} (hp1 : 2 ≤ p) (hp : p ≤ 1000) (h1 : 1 ≤ n) (h2 : n ≤ 16) (hv : 1 ≤ v) {K0 : Int → Int → A} {K1 : A} : ∀ (d i k : Nat), i + d = n → d + 1100 ≤ k →
    impl_SymbolAt.g7 z k (p : Int) (r : Int) (v : Int) (n : Int) (i : Int) (n : Int) K0 K1 = (match symF p r (v ^ ((p - 1) / n) % p) d i with | some j => K0 (j : Int) 0 | none => K1)
  | d, i, 0, _, hk => absurd hk (by omega)
  | 0, i, k + 1, hi, hk => by
    rw [impl_SymbolAt.g7, if_neg (by omega)]
    rfl
  | d + 1, i, k + 1, hi, hk => by
    have hq := Nat.div_le_self (p - 1) n
    have hb : -9223372036854775808 ≤ (((p - 1) / n : Nat) : Int) := Int.le_trans (by decide) (Int.natCast_nonneg _)
    have e1 : w64 ((p : Int) - 1) = ((p - 1 : Nat) : Int) := by rw [w64_id (by omega) (by omega)]; omega
    rw [impl_SymbolAt.g7, if_pos (by omega), if_pos (by omega), gd_ok z (by omega), e1, tdivN, w64_id (x := (((p - 1) / n : Nat) : Int)) hb (by omega), power_eq z (by omega) hp _ _ (by omega) k (by omega), power_eq z (by omega) hp _ _ (by omega) k (by omega), symF]
    by_cases c : v ^ ((p - 1) / n) % p = r ^ i % p
    · rw [if_pos (by rw [c]), if_pos c]
    · rw [if_neg (by omega), if_neg c, w64_up (by omega), symbol_g hp1 hp h1 h2 hv d (i + 1) k (by omega) (by omega)]
theorem symbol_g0 {p r n : Nat} (h2 : n ≤ 16) {K0 : Int → Int → A} {K1 : A} : ∀ (d i k : Nat), i + d = n → d + 1 ≤ k →
    impl_SymbolAt.g7 z k (p : Int) (r : Int) 0 (n : Int) (i : Int) (n : Int) K0 K1 = K1
  | d, i, 0, _, hk => absurd hk (by omega)
  | 0, i, k + 1, hi, hk => by
    rw [impl_SymbolAt.g7, if_neg (by omega)]
  | d + 1, i, k + 1, hi, hk => by
    rw [impl_SymbolAt.g7, if_pos (by omega), if_neg (by omega), w64_up (by omega), symbol_g0 h2 d (i + 1) k (by omega) (by omega)]
theorem symbol07_g {p r t : Nat} (hp1 : 2 ≤ p) (hp : p ≤ 1000) (hr : r ≤ 1000) {K0 : Int → A} {v : Nat} : ∀ (d i k : Nat), symF p r t d i = some v → i + d ≤ 1000 → 2000 + d ≤ k →
    spec_SymbolAt.g11 z k (p : Int) (r : Int) (t : Int) (i : Int) K0 = K0 (v : Int)
  | 0, i, k, h, _, _ => by cases h
  | d + 1, i, 0, h, _, hk => absurd hk (by omega)
  | d + 1, i, k + 1, h, hi, hk => by
    rw [symF] at h
    rw [spec_SymbolAt.g11, power07_eq z hp1 hp hr _ (by omega) k (by omega)]
    by_cases c : t = r ^ i % p
    · rw [if_pos c] at h
      cases h
      rw [if_neg (by omega)]
    · rw [if_neg c] at h
      rw [if_pos (by omega), w64_up (by omega), symbol07_g hp1 hp hr d (i + 1) k h (by omega) (by omega)]
end
end Go.Proofs.Ytefdcoeidpbcjaa.F
/- Facts on the functions of places: tables. Plain. -/
namespace Go.Proofs.Ytefdcoeidpbcjaa.F
open Go.RowKit Go.Proofs.Ytefdcoeidpbcjaa.R
set_option linter.unusedVariables false
set_option linter.unusedSimpArgs false
def symOk (n p : Nat) : Bool := (List.range p).all fun j => !(decide (1 ≤ j) && decide (horn p j (cycF n) = 0)) || (List.range p).all fun v => decide (v = 0) || (symF p j (v ^ ((p - 1) / n) % p) n 0).isSome
theorem sym_all : ((List.range 16).all fun q => (List.range 62).all fun p => !(isP p && fully (q + 1) p) || symOk (q + 1) p) = true := by decide +kernel
end Go.Proofs.Ytefdcoeidpbcjaa.F
/- Facts on the functions of places: symbols, on both sides. -/
namespace Go.Proofs.Ytefdcoeidpbcjaa.F
open Go.RowKit Go.Proofs.Ytefdcoeidpbcjaa.R
set_option linter.unusedVariables false
set_option linter.unusedSimpArgs false
def sym2 (n : Int) (x : List Int) (p : Nat) (r : Int) : Int × Int :=
  if plC n x p r ≠ 0 then (0, plC n x p r) else
  if horn p r.toNat x = 0 then (0, 5) else (((symF p r.toNat ((horn p r.toNat x).toNat ^ ((p - 1) / n.toNat) % p) n.toNat 0).getD 0 : Nat), 0)
theorem sym_some {n p j v : Nat} (h1 : 1 ≤ n) (h2 : n ≤ 16) (hp : isP p = true) (hf : fully n p = true) (j1 : 1 ≤ j) (j2 : j < p) (hz : horn p j (cycF n) = 0) (v1 : 1 ≤ v) (v2 : v < p) : ∃ i, symF p j (v ^ ((p - 1) / n) % p) n 0 = some i := by
  obtain ⟨p1, p2⟩ := isP_bd hp
  have h := List.all_eq_true.1 (List.all_eq_true.1 sym_all (n - 1) (List.mem_range.2 (by omega))) p (List.mem_range.2 (by omega))
  have e : n - 1 + 1 = n := by omega
  rw [e, hp, hf] at h
  unfold symOk at h
  simp only [Bool.and_self, Bool.not_true, Bool.false_or, List.all_eq_true, List.mem_range, Bool.or_eq_true, Bool.not_eq_true', Bool.and_eq_false_iff, decide_eq_false_iff_not, decide_eq_true_eq] at h
  have g := ((h j j2).resolve_left (fun c => by rcases c with c | c; exact c j1; exact c hz) v v2).resolve_left (by omega)
  exact Option.isSome_iff_exists.1 g
section
variable {A : Type} (z : A)
theorem symbolAt_eq (n : Int) {x : List Int} (hx : x.length ≤ 1000) {p : Nat} (hp : p ≤ 1000) (r : Int) (k : Nat) (hk : 2300 ≤ k) (Φ : Int → Int → A) : impl_SymbolAt z k n x (p : Int) r Φ = Φ (sym2 n x p r).1 (sym2 n x p r).2 := by
  obtain ⟨k, rfl⟩ := le_ex (show 1 ≤ k by omega)
  simp only [impl_SymbolAt, step_succ]
  rw [residueAt_eq z n hx hp r k (by omega)]
  unfold res2 sym2
  by_cases c : plC n x p r ≠ 0
  · rw [if_pos c, if_pos c, if_pos c]
  · obtain ⟨c1, c2⟩ := plC_zero (Decidable.of_not_not c)
    obtain ⟨m, j, rfl, rfl, h1, h2, h3, h4, h5, h6, h7, h8, h9⟩ := isPl_x c2
    rw [if_neg c, if_neg c, if_neg (fun h => h rfl), Int.toNat_natCast, Int.toNat_natCast]
    obtain ⟨b1, b2⟩ := horn_bd (p := p) (by omega) j x
    by_cases c0 : horn p j x = 0
    · rw [if_pos c0]
      show impl_SymbolAt.g7 z k (p : Int) (j : Int) (horn p j x) (m : Int) 0 (m : Int) Φ (Φ 0 5) = _
      rw [c0]
      exact symbol_g0 z h2 m 0 k (by omega) (by omega)
    · rw [if_neg c0]
      obtain ⟨v, hv⟩ : ∃ v : Nat, horn p j x = v := ⟨(horn p j x).toNat, by omega⟩
      rw [hv, Int.toNat_natCast]
      obtain ⟨i, hi⟩ := sym_some (v := v) h1 h2 h7 h8 h5 h6 h9 (by omega) (by omega)
      refine Eq.trans (symbol_g z (p := p) (r := j) (v := v) (n := m) (by omega) hp h1 h2 (by omega) m 0 k (by omega) (by omega)) ?_
      rw [hi]
      rfl
theorem specSymbolAt_eq (n : Int) {x : List Int} (hx : x.length ≤ 1000) {p : Nat} (hp : p ≤ 1000) (r : Int) (k : Nat) (hk : 2300 ≤ k) (Φ : Int → Int → A) : spec_SymbolAt z k n x (p : Int) r Φ = Φ (sym2 n x p r).1 (sym2 n x p r).2 := by
  obtain ⟨k, rfl⟩ := le_ex (show 1 ≤ k by omega)
  simp only [spec_SymbolAt, step_succ]
  rw [given07_eq z n hx hp r k (by omega)]
  unfold sym2
  by_cases c : plC n x p r ≠ 0
  · rw [if_pos c, if_pos c]
  · obtain ⟨c1, c2⟩ := plC_zero (Decidable.of_not_not c)
    obtain ⟨m, j, rfl, rfl, h1, h2, h3, h4, h5, h6, h7, h8, h9⟩ := isPl_x c2
    rw [if_neg c, if_neg c, value07_eq z (by omega) hp (by omega) hx k (by omega), Int.toNat_natCast, Int.toNat_natCast]
    obtain ⟨b1, b2⟩ := horn_bd (p := p) (by omega) j x
    by_cases c0 : horn p j x = 0
    · rw [if_pos c0, if_pos c0]
    · rw [if_neg c0, if_neg c0]
      obtain ⟨v, hv⟩ : ∃ v : Nat, horn p j x = v := ⟨(horn p j x).toNat, by omega⟩
      rw [hv, Int.toNat_natCast]
      obtain ⟨i, hi⟩ := sym_some (v := v) h1 h2 h7 h8 h5 h6 h9 (by omega) (by omega)
      have hq := Nat.div_le_self (p - 1) m
      have hb : -9223372036854775808 ≤ (((p - 1) / m : Nat) : Int) := Int.le_trans (by decide) (Int.natCast_nonneg _)
      have e1 : w64 ((p : Int) - 1) = ((p - 1 : Nat) : Int) := by rw [w64_id (by omega) (by omega)]; omega
      rw [gd_ok z (by omega), e1, tdivN, w64_id (x := (((p - 1) / m : Nat) : Int)) hb (by omega), power07_eq z (by omega) hp (by omega) _ (by omega) k (by omega)]
      refine Eq.trans (symbol07_g z (p := p) (r := j) (by omega) hp (by omega) m 0 k hi (by omega) (by omega)) ?_
      rw [hi]
      rfl
end
end Go.Proofs.Ytefdcoeidpbcjaa.F
/- Residues at a root: of products, of images. Plain. -/
namespace Go.Proofs.Ytefdcoeidpbcjaa.F
open Go.RowKit Go.Proofs.Ytefdcoeidpbcjaa.R
set_option linter.unusedVariables false
set_option linter.unusedSimpArgs false
/-- The same modulo p. -/
def Cp (p : Nat) (a b : Int) : Prop := ∃ t : Int, a = b + p * t
theorem Cp.refl {p : Nat} (a : Int) : Cp p a a := ⟨0, by simp⟩
theorem Cp.of {p : Nat} {a b : Int} (h : a = b) : Cp p a b := h ▸ Cp.refl a
theorem Cp.symm {p : Nat} {a b : Int} (h : Cp p a b) : Cp p b a := by obtain ⟨t, h⟩ := h; exact ⟨-t, by rw [Int.mul_neg]; omega⟩
theorem Cp.trans {p : Nat} {a b c : Int} (h : Cp p a b) (g : Cp p b c) : Cp p a c := by obtain ⟨t, h⟩ := h; obtain ⟨s, g⟩ := g; exact ⟨t + s, by rw [Int.mul_add]; omega⟩
theorem Cp.add {p : Nat} {a b c d : Int} (h : Cp p a b) (g : Cp p c d) : Cp p (a + c) (b + d) := by obtain ⟨t, h⟩ := h; obtain ⟨s, g⟩ := g; exact ⟨t + s, by rw [Int.mul_add]; omega⟩
theorem Cp.left {p : Nat} {c d : Int} (a : Int) (g : Cp p c d) : Cp p (a * c) (a * d) := by
  obtain ⟨s, g⟩ := g
  exact ⟨a * s, by rw [g, Int.mul_add, Int.mul_left_comm]⟩
theorem Cp.mul {p : Nat} {a b c d : Int} (h : Cp p a b) (g : Cp p c d) : Cp p (a * c) (b * d) := by
  refine (Cp.left a g).trans ?_
  rw [Int.mul_comm a, Int.mul_comm b]
  exact Cp.left d h
theorem Cp.mod {p : Nat} (a : Int) : Cp p (a % p) a := ⟨-(a / p), by have := Int.emod_add_mul_ediv a p; rw [Int.mul_neg]; omega⟩
theorem Cp.tmod {p : Nat} (a : Int) : Cp p (a.tmod p) a := ⟨-(a.tdiv p), by have := Int.tmod_add_mul_tdiv a p; rw [Int.mul_neg]; omega⟩
theorem Cp.eq {p : Nat} {a b : Int} (h : Cp p a b) (ha : 0 ≤ a ∧ a < p) (hb : 0 ≤ b ∧ b < p) : a = b := by
  obtain ⟨t, h⟩ := h
  have e : a % p = b % p := by rw [h, Int.add_mul_emod_self_left]
  rwa [Int.emod_eq_of_lt ha.1 ha.2, Int.emod_eq_of_lt hb.1 hb.2] at e
theorem sumF_cp {p : Nat} {f g : Nat → Int} : ∀ (d k : Nat), (∀ i, k ≤ i → i < k + d → Cp p (f i) (g i)) → Cp p (sumF k d f) (sumF k d g)
  | 0, _, _ => Cp.refl _
  | d + 1, k, h => Cp.add (h k (Nat.le_refl _) (by omega)) (sumF_cp d (k + 1) (fun i h1 h2 => h i (by omega) (by omega)))
theorem sumF_shift (f : Nat → Int) (s : Nat) : ∀ (d k : Nat), sumF (k + s) d f = sumF k d (fun i => f (i + s))
  | 0, _ => rfl
  | d + 1, k => by
    unfold sumF
    rw [show k + s + 1 = k + 1 + s by omega, sumF_shift f s d (k + 1)]
/-- The value at r. -/
def ev (r : Int) (x : List Int) : Int := sumF 0 x.length fun i => rd x i * r ^ i
theorem rd_cons (a : Int) (t : List Int) (i : Nat) : rd (a :: t) ((i + 1 : Nat) : Int) = rd t i := by
  unfold rd
  rw [Int.toNat_natCast, Int.toNat_natCast]
  rfl
theorem ev_cons (r a : Int) (t : List Int) : ev r (a :: t) = ev r t * r + a := by
  unfold ev
  rw [List.length_cons, sumF, sumF_shift _ 1 t.length 0, Int.pow_zero, Int.mul_one, show rd (a :: t) (0 : Nat) = a from rfl, ← sumF_right, Int.add_comm]
  congr 1
  exact sumF_congr _ 0 fun i _ _ => by rw [rd_cons, Int.pow_succ, Int.mul_assoc]
theorem horn_ev {p : Nat} (r : Nat) : ∀ x : List Int, Cp p (horn p r x) (ev r x)
  | [] => Cp.refl _
  | a :: t => by
    rw [horn, ev_cons]
    exact (Cp.mod _).trans (Cp.add (Cp.mul (horn_ev r t) (Cp.refl _)) (Cp.tmod a))
theorem horn_eq {p r : Nat} (hp : 1 ≤ p) {x : List Int} {v : Int} (h : Cp p (ev r x) v) (hv : 0 ≤ v ∧ v < p) : horn p r x = v :=
  ((horn_ev r x).trans h).eq (horn_bd hp r x) hv
/-- The rows of the powers: the next one is the last one moved, less a multiple of the polynomial. -/
def cycNextOk (n : Nat) : Bool := (List.range n).all fun s => (List.range (cycD n + 1)).all fun m => (if m = 0 then 0 else cycW n (m - 1) s) == (if m < cycD n then cycW n m (s + 1) else 0) + cycW n (cycD n - 1) s * rd (cycF n) m
theorem cyc_next_all : ((List.range 16).all fun q => cycNextOk (q + 1)) = true := by decide +kernel
theorem cyc_next {n : Nat} (h1 : 1 ≤ n) (h2 : n ≤ 16) (s m : Nat) (hm : m ≤ cycD n) : (if m = 0 then 0 else cycW n (m - 1) s) = (if m < cycD n then cycW n m (s + 1) else 0) + cycW n (cycD n - 1) s * rd (cycF n) m := by
  have h := List.all_eq_true.1 cyc_next_all (n - 1) (List.mem_range.2 (by omega))
  have e : n - 1 + 1 = n := by omega
  rw [e] at h
  unfold cycNextOk at h
  simp only [List.all_eq_true, List.mem_range, beq_iff_eq] at h
  have g := h (s % n) (Nat.mod_lt _ h1) m (by omega)
  rw [cycW_mod, cycW_mod, ← cycW_mod n m (s % n + 1), Nat.mod_add_mod, cycW_mod] at g
  exact g
theorem sumF_last (f : Nat → Int) : ∀ (d k : Nat), sumF k (d + 1) f = sumF k d f + f (k + d)
  | 0, k => by
    show f k + 0 = 0 + f (k + 0)
    rw [Nat.add_zero]; omega
  | d + 1, k => by
    have h := sumF_last f d (k + 1)
    have e : sumF k (d + 1 + 1) f = f k + sumF (k + 1) (d + 1) f := rfl
    have e2 : sumF k (d + 1) f = f k + sumF (k + 1) d f := rfl
    rw [e, e2, h, show k + 1 + d = k + (d + 1) by omega]
    omega
/-- The value of the root's s-th power is the s-th power of the value. -/
def evW (n : Nat) (r : Int) (s : Nat) : Int := sumF 0 (cycD n) fun m => cycW n m s * r ^ m
theorem evW_next {n : Nat} (h1 : 1 ≤ n) (h2 : n ≤ 16) (r : Int) (s : Nat) : evW n r s * r = evW n r (s + 1) + cycW n (cycD n - 1) s * ev r (cycF n) := by
  have C := cyc_facts h1 h2
  have L : sumF 0 (cycD n + 1) (fun m => (if m = 0 then 0 else cycW n (m - 1) s) * r ^ m) = evW n r s * r := by
    rw [sumF, sumF_shift _ 1 (cycD n) 0, if_pos rfl, Int.zero_mul, Int.zero_add]
    unfold evW
    rw [← sumF_right]
    exact sumF_congr _ 0 fun i _ _ => by rw [if_neg (by omega), Nat.add_sub_cancel, Int.pow_succ, Int.mul_assoc]
  have R : sumF 0 (cycD n + 1) (fun m => (if m < cycD n then cycW n m (s + 1) else 0) * r ^ m) = evW n r (s + 1) := by
    rw [sumF_last, if_neg (by omega), Int.zero_mul, Int.add_zero]
    exact sumF_congr _ 0 fun i _ hi => by rw [if_pos (by omega)]
  rw [← L, ← R]
  unfold ev
  rw [C.lenF, ← sumF_left, ← sumF_add]
  refine sumF_congr _ 0 fun m _ hm => ?_
  rw [cyc_next h1 h2 s m (by omega), Int.add_mul, Int.mul_assoc]
theorem evW_zero {n : Nat} (C : CycFacts n) (r : Int) : evW n r 0 = 1 := by
  have e : evW n r 0 = sumF 0 (cycD n) (fun m => if 0 = m then (1 : Int) else 0) := sumF_congr _ 0 fun m _ hm => by
    rw [C.unit 0 C.pos m (by omega)]
    by_cases c : m = 0
    · rw [c, if_pos rfl, Int.pow_zero, Int.mul_one]
    · rw [if_neg c, if_neg (by omega), Int.zero_mul]
  rw [e]
  exact sumF_hit 0 (fun _ => 1) _ 0 (Nat.le_refl _) (by have := C.pos; omega)
theorem evW_cp {n p r : Nat} (h1 : 1 ≤ n) (h2 : n ≤ 16) (hz : horn p r (cycF n) = 0) : ∀ s, Cp p (evW n r s) ((r : Int) ^ s)
  | 0 => by rw [evW_zero (cyc_facts h1 h2), Int.pow_zero]; exact Cp.refl _
  | s + 1 => by
    have ih := evW_cp h1 h2 hz s
    have hF : Cp p (ev r (cycF n)) 0 := by
      have h := horn_ev (p := p) r (cycF n)
      rw [hz] at h
      exact h.symm
    have e := evW_next h1 h2 (r : Int) s
    have g := Cp.add (Cp.refl (evW n r (s + 1))) (Cp.left (cycW n (cycD n - 1) s) hF)
    rw [← e, Int.mul_zero, Int.add_zero] at g
    rw [Int.pow_succ]
    exact g.symm.trans (Cp.mul ih (Cp.refl _))
/-- The value of a sum of powers. -/
theorem ev_gen {n p r : Nat} (h1 : 1 ≤ n) (h2 : n ≤ 16) (hz : horn p r (cycF n) = 0) (f : Nat → Int) (q : Nat → Nat) (d : Nat) : Cp p (ev r (tab (cycD n) fun m => sumF 0 d fun i => f i * cycW n m (q i))) (sumF 0 d fun i => f i * (r : Int) ^ q i) := by
  unfold ev
  rw [tab_length, sumF_congr (cycD n) 0 (g := fun m => sumF 0 d (fun i => f i * cycW n m (q i)) * (r : Int) ^ m) (fun m _ hm => by rw [tab_rd _ _ _ (by omega)]), lin]
  exact sumF_cp _ 0 fun i _ _ => Cp.left _ (evW_cp h1 h2 hz (q i))
/-- The value of a product is the product of the values. -/
theorem ev_bil {n p r : Nat} (h1 : 1 ≤ n) (h2 : n ≤ 16) (hz : horn p r (cycF n) = 0) (x y : List Int) : Cp p (ev r (tab (cycD n) (bil n x y))) (ev r x * ev r y) := by
  have e : ev r (tab (cycD n) (bil n x y)) = sumF 0 x.length fun i => rd x i * sumF 0 y.length fun k => rd y k * evW n r (i + k) := by
    unfold ev
    rw [tab_length, sumF_congr (cycD n) 0 (g := fun m => sumF 0 x.length (fun i => rd x i * sumF 0 y.length (fun k => rd y k * cycW n m (i + k))) * (r : Int) ^ m) (fun m _ hm => by rw [tab_rd _ _ _ (by omega)]; rfl), lin]
    refine sumF_congr _ 0 fun i _ _ => congrArg (rd x i * ·) ?_
    rw [lin]
    rfl
  rw [e]
  unfold ev
  rw [← sumF_right]
  refine sumF_cp _ 0 fun i _ _ => ?_
  rw [Int.mul_assoc]
  refine Cp.left _ ?_
  rw [← sumF_left]
  refine sumF_cp _ 0 fun k _ _ => ?_
  rw [Int.mul_left_comm, ← Int.pow_add]
  exact Cp.left _ (evW_cp h1 h2 hz (i + k))
theorem pow_cp {p r : Nat} (a : Nat) : ∀ i : Nat, Cp p (((r ^ a % p : Nat) : Int) ^ i) ((r : Int) ^ (i * a))
  | 0 => by rw [Int.pow_zero, Nat.zero_mul, Int.pow_zero]; exact Cp.refl _
  | i + 1 => by
    rw [Int.pow_succ, Nat.add_mul, Nat.one_mul, Int.pow_add]
    refine Cp.mul (pow_cp a i) ?_
    rw [Int.natCast_emod, Int.natCast_pow]
    exact Cp.mod _
/-- The value of an image is the value at the moved place. -/
theorem ev_gal {n p r : Nat} (h1 : 1 ≤ n) (h2 : n ≤ 16) (hz : horn p r (cycF n) = 0) (x : List Int) (a : Nat) : Cp p (ev r (tab (cycD n) (galN n x a))) (ev ((r ^ a % p : Nat) : Int) x) := by
  refine (ev_gen h1 h2 hz (fun i => rd x i) (fun i => i * a) x.length).trans ?_
  unfold ev
  exact sumF_cp _ 0 fun i _ _ => Cp.left _ (pow_cp a i).symm
theorem horn_mul {n p r : Nat} (h1 : 1 ≤ n) (h2 : n ≤ 16) (hp : 1 ≤ p) (hz : horn p r (cycF n) = 0) (x y : List Int) : horn p r (tab (cycD n) (bil n x y)) = (horn p r x * horn p r y) % p := by
  refine horn_eq hp ((ev_bil h1 h2 hz x y).trans ?_) ⟨Int.emod_nonneg _ (by omega), Int.emod_lt_of_pos _ (by omega)⟩
  exact (Cp.mul (horn_ev r x).symm (horn_ev r y).symm).trans (Cp.mod _).symm
theorem horn_gal {n p r : Nat} (h1 : 1 ≤ n) (h2 : n ≤ 16) (hp : 1 ≤ p) (hz : horn p r (cycF n) = 0) (x : List Int) (a : Nat) : horn p r (tab (cycD n) (galN n x a)) = horn p (r ^ a % p) x :=
  horn_eq hp ((ev_gal h1 h2 hz x a).trans (horn_ev _ x).symm) (horn_bd hp _ x)
end Go.Proofs.Ytefdcoeidpbcjaa.F
/- Symbols of squares, moved places. Plain. -/
namespace Go.Proofs.Ytefdcoeidpbcjaa.F
open Go.RowKit Go.Proofs.Ytefdcoeidpbcjaa.R
set_option linter.unusedVariables false
set_option linter.unusedSimpArgs false
theorem symF_some {p r t : Nat} : ∀ (d i j : Nat), symF p r t d i = some j → t = r ^ j % p ∧ i ≤ j ∧ j < i + d
  | 0, i, j, h => by cases h
  | d + 1, i, j, h => by
    rw [symF] at h
    by_cases c : t = r ^ i % p
    · rw [if_pos c] at h
      cases h
      exact ⟨c, by omega, by omega⟩
    · rw [if_neg c] at h
      obtain ⟨h1, h2, h3⟩ := symF_some d (i + 1) j h
      exact ⟨h1, by omega, by omega⟩
def rootOk (n p : Nat) : Bool := (List.range p).all fun j => !(decide (1 ≤ j) && decide (horn p j (cycF n) = 0)) ||
  (((List.range n).all fun i => symF p j (j ^ i % p) n 0 == some i) &&
   (List.range (n + 1)).all fun a => !(decide (1 ≤ a) && decide (Nat.gcd a n = 1)) || (decide (1 ≤ j ^ a % p) && decide (horn p (j ^ a % p) (cycF n) = 0)))
theorem root_all : ((List.range 16).all fun q => (List.range 62).all fun p => !(isP p && fully (q + 1) p) || rootOk (q + 1) p) = true := by decide +kernel
theorem root_ok {n p j : Nat} (h1 : 1 ≤ n) (h2 : n ≤ 16) (hp : isP p = true) (hf : fully n p = true) (j1 : 1 ≤ j) (j2 : j < p) (hz : horn p j (cycF n) = 0) :
    (∀ i, i < n → symF p j (j ^ i % p) n 0 = some i) ∧ ∀ a, 1 ≤ a → a ≤ n → Nat.gcd a n = 1 → 1 ≤ j ^ a % p ∧ horn p (j ^ a % p) (cycF n) = 0 := by
  obtain ⟨p1, p2⟩ := isP_bd hp
  have h := List.all_eq_true.1 (List.all_eq_true.1 root_all (n - 1) (List.mem_range.2 (by omega))) p (List.mem_range.2 (by omega))
  have e : n - 1 + 1 = n := by omega
  rw [e, hp, hf] at h
  unfold rootOk at h
  simp only [Bool.and_self, Bool.not_true, Bool.false_or, List.all_eq_true, List.mem_range, Bool.or_eq_true, Bool.not_eq_true', Bool.and_eq_false_iff, decide_eq_false_iff_not, decide_eq_true_eq, Bool.and_eq_true, beq_iff_eq] at h
  obtain ⟨g1, g2⟩ := (h j j2).resolve_left (fun c => by rcases c with c | c; exact c j1; exact c hz)
  exact ⟨g1, fun a a1 a2 a3 => (g2 a (by omega)).resolve_left (fun c => by rcases c with c | c; exact c a1; exact c a3)⟩
theorem sq_all : ((List.range 62).all fun p => !isP p || (List.range p).all fun v => decide (v = 0) || !decide (v * v % p = 0)) = true := by decide +kernel
theorem sq_ne {p v : Nat} (hp : isP p = true) (v1 : 1 ≤ v) (v2 : v < p) : ¬ v * v % p = 0 := by
  obtain ⟨p1, p2⟩ := isP_bd hp
  have h := List.all_eq_true.1 sq_all p (List.mem_range.2 (by omega))
  rw [hp] at h
  simp only [Bool.not_true, Bool.false_or, List.all_eq_true, List.mem_range, Bool.or_eq_true, decide_eq_true_eq, Bool.not_eq_true', decide_eq_false_iff_not] at h
  exact (h v v2).resolve_left (by omega)
/-- The root's n-th power is 1. -/
theorem root_one {n p r : Nat} (h1 : 1 ≤ n) (h2 : n ≤ 16) (hp : 2 ≤ p) (hz : horn p r (cycF n) = 0) : r ^ n % p = 1 := by
  have h := evW_cp h1 h2 hz n
  have e : evW n (r : Int) n = evW n (r : Int) 0 := sumF_congr _ 0 fun m _ _ => by rw [← cycW_mod n m n, Nat.mod_self]
  rw [e, evW_zero (cyc_facts h1 h2)] at h
  have g := ((Cp.mod (p := p) ((r : Int) ^ n)).trans h.symm).eq ⟨Int.emod_nonneg _ (by omega), Int.emod_lt_of_pos _ (by omega)⟩ (by omega)
  rw [← Int.natCast_pow, ← Int.natCast_emod] at g
  omega
theorem pow_red {n p r : Nat} (hp : 2 ≤ p) (ho : r ^ n % p = 1) (s : Nat) : r ^ s % p = r ^ (s % n) % p := by
  have e : r ^ s = (r ^ n) ^ (s / n) * r ^ (s % n) := by rw [← Nat.pow_mul, ← Nat.pow_add, Nat.div_add_mod]
  rw [e, Nat.mul_mod, Nat.pow_mod (r ^ n), ho, Nat.one_pow, Nat.mod_eq_of_lt (show 1 < p by omega), Nat.one_mul, Nat.mod_mod]
theorem sym_square {n p j v e i : Nat} (h1 : 1 ≤ n) (h2 : n ≤ 16) (hp : isP p = true) (hf : fully n p = true) (j1 : 1 ≤ j) (j2 : j < p) (hz : horn p j (cycF n) = 0) (hi : symF p j (v ^ e % p) n 0 = some i) : symF p j ((v * v % p) ^ e % p) n 0 = some (2 * i % n) := by
  obtain ⟨p1, p2⟩ := isP_bd hp
  obtain ⟨g1, g2, g3⟩ := symF_some n 0 i hi
  have e1 : (v * v % p) ^ e % p = j ^ (2 * i % n) % p := by
    rw [← Nat.pow_mod, ← Nat.pow_two, ← Nat.pow_mul, Nat.mul_comm 2 e, Nat.pow_mul, Nat.pow_mod, g1, ← Nat.pow_mod, ← Nat.pow_mul, Nat.mul_comm i 2]
    exact pow_red (by omega) (root_one h1 h2 (by omega) hz) _
  rw [e1]
  exact (root_ok h1 h2 hp hf j1 j2 hz).1 _ (Nat.mod_lt _ h1)
theorem isPl_of {n p j : Nat} (h1 : 1 ≤ n) (h2 : n ≤ 16) (hp : isP p = true) (hf : fully n p = true) (j1 : 1 ≤ j) (j2 : j < p) (hz : horn p j (cycF n) = 0) : isPl (n : Int) p (j : Int) = true := by
  unfold isPl
  rw [decide_eq_true (show 1 ≤ (n : Int) ∧ (n : Int) ≤ 16 by omega), hp, Int.toNat_natCast, hf, decide_eq_true ((mem_rootsFrom _ _).2 ⟨j, rfl, j1, by omega, hz⟩)]
  rfl
/-- A square's symbol and residue. -/
theorem square_at {n : Int} {x : List Int} {p : Nat} {r : Int} {P : List Int} (h : (sym2 n x p r).2 = 0) (hP : mulO n.toNat x x = some P) :
    1 ≤ n ∧ n ≤ 16 ∧ 3 ≤ p ∧ p ≤ 61 ∧ (sym2 n P p r).2 = 0 ∧ (res2 n x p r).2 = 0 ∧ (res2 n P p r).2 = 0 ∧ (sym2 n P p r).1 = (2 * (sym2 n x p r).1).tmod n ∧ 0 ≤ (sym2 n x p r).1 ∧ (sym2 n x p r).1 ≤ 16 ∧
      ((res2 n x p r).1 * (res2 n x p r).1).tmod p = (res2 n P p r).1 ∧ 0 ≤ (res2 n x p r).1 ∧ (res2 n x p r).1 < p := by
  have c0 : plC n x p r = 0 := by
    unfold sym2 at h
    by_cases c : plC n x p r = 0
    · exact c
    · rw [if_pos c] at h; exact h
  obtain ⟨c1, c2⟩ := plC_zero c0
  obtain ⟨m, j, rfl, rfl, h1, h2, h3, h4, h5, h6, h7, h8, h9⟩ := isPl_x c2
  have hg := mulO_good hP
  have c3 : plC (m : Int) P p (j : Int) = 0 := by
    unfold plC
    rw [isC_of h1 h2 hg.1 (good_small hg), c2]
    rfl
  have eP : P = tab (cycD m) (bil m x x) := by
    rw [Int.toNat_natCast] at hP
    unfold mulO at hP
    split at hP
    · cases hP; rfl
    · cases hP
  have hm := horn_mul h1 h2 (show 1 ≤ p by omega) h9 x x
  rw [← eP] at hm
  obtain ⟨b1, b2⟩ := horn_bd (p := p) (by omega) j x
  obtain ⟨v, hv⟩ : ∃ v : Nat, horn p j x = v := ⟨(horn p j x).toNat, by omega⟩
  unfold sym2 at h ⊢
  unfold res2
  rw [if_neg (fun c => c c0), Int.toNat_natCast, Int.toNat_natCast] at h
  have n0 : ¬ plC (m : Int) x p (j : Int) ≠ 0 := fun c => c c0
  have n3 : ¬ plC (m : Int) P p (j : Int) ≠ 0 := fun c => c c3
  simp only [if_neg n0, if_neg n3, Int.toNat_natCast]
  rw [hv] at h hm ⊢
  rw [← Int.natCast_mul, ← Int.natCast_emod] at hm
  rw [hm]
  by_cases z0 : (v : Int) = 0
  · rw [if_pos z0] at h; cases h
  · obtain ⟨i, hi⟩ := sym_some (v := v) h1 h2 h7 h8 h5 h6 h9 (by omega) (by omega)
    have hs := sym_square h1 h2 h7 h8 h5 h6 h9 hi
    have hne := sq_ne h7 (v := v) (by omega) (by omega)
    obtain ⟨_, _, i3⟩ := symF_some m 0 i hi
    rw [if_neg z0, if_neg (by omega), Int.toNat_natCast, Int.toNat_natCast, hi, hs, ← Int.natCast_mul, tmodN]
    refine ⟨by omega, by omega, h3, h4, by trivial, by trivial, by trivial, ?_, by simp only [Option.getD_some]; omega, by simp only [Option.getD_some]; omega, rfl, by omega, by omega⟩
    simp only [Option.getD_some]
    rw [show (2 : Int) * (i : Int) = ((2 * i : Nat) : Int) by omega, tmodN]
end Go.Proofs.Ytefdcoeidpbcjaa.F
/- Facts on the functions of places: the number that the law makes, its image at a moved place. -/
namespace Go.Proofs.Ytefdcoeidpbcjaa.F
open Go.RowKit Go.Proofs.Ytefdcoeidpbcjaa.R
set_option linter.unusedVariables false
set_option linter.unusedSimpArgs false
def quadL (n : Nat) : List Int := (List.range n).map fun i : Nat => 3 * (i : Int) * i - 5 * i + 2
def quadX (n : Nat) : List Int := tab (cycD n) fun m => galQ n (quadL n) (fun i => i) m
theorem quad_tab : ∀ n : Nat, 1 ≤ n → n ≤ 16 → ∀ (j : Nat) (A : Type) (z : A) (K0 : List Int → A), laws_FnResidues.g30 z (j + 40) (n : Int) 0 [] K0 = K0 (quadL n) :=
  by16 (fun _ _ _ _ => by kernel_rfl) (fun _ _ _ _ => by kernel_rfl) (fun _ _ _ _ => by kernel_rfl) (fun _ _ _ _ => by kernel_rfl) (fun _ _ _ _ => by kernel_rfl) (fun _ _ _ _ => by kernel_rfl) (fun _ _ _ _ => by kernel_rfl) (fun _ _ _ _ => by kernel_rfl) (fun _ _ _ _ => by kernel_rfl) (fun _ _ _ _ => by kernel_rfl) (fun _ _ _ _ => by kernel_rfl) (fun _ _ _ _ => by kernel_rfl) (fun _ _ _ _ => by kernel_rfl) (fun _ _ _ _ => by kernel_rfl) (fun _ _ _ _ => by kernel_rfl) (fun _ _ _ _ => by kernel_rfl)
theorem cyc_tab : ∀ n : Nat, 1 ≤ n → n ≤ 16 → ∀ (j : Nat) (A : Type) (z : A) (K0 : Int → List Int → Int → A), impl_CycloOf z (j + 300) (n : Int) (quadL n) K0 = K0 (n : Int) (quadX n) 0 :=
  by16 (fun _ _ _ _ => by kernel_rfl) (fun _ _ _ _ => by kernel_rfl) (fun _ _ _ _ => by kernel_rfl) (fun _ _ _ _ => by kernel_rfl) (fun _ _ _ _ => by kernel_rfl) (fun _ _ _ _ => by kernel_rfl) (fun _ _ _ _ => by kernel_rfl) (fun _ _ _ _ => by kernel_rfl) (fun _ _ _ _ => by kernel_rfl) (fun _ _ _ _ => by kernel_rfl) (fun _ _ _ _ => by kernel_rfl) (fun _ _ _ _ => by kernel_rfl) (fun _ _ _ _ => by kernel_rfl) (fun _ _ _ _ => by kernel_rfl) (fun _ _ _ _ => by kernel_rfl) (fun _ _ _ _ => by kernel_rfl)
theorem quad_bd : ∀ n : Nat, 1 ≤ n → n ≤ 16 → ((quadX n).length == cycD n && (quadX n).all fun x => decide (-50000 ≤ x ∧ x ≤ 50000)) = true :=
  by16 (by decide +kernel) (by decide +kernel) (by decide +kernel) (by decide +kernel) (by decide +kernel) (by decide +kernel) (by decide +kernel) (by decide +kernel) (by decide +kernel) (by decide +kernel) (by decide +kernel) (by decide +kernel) (by decide +kernel) (by decide +kernel) (by decide +kernel) (by decide +kernel)
theorem quad_within {n : Nat} (h1 : 1 ≤ n) (h2 : n ≤ 16) : (quadX n).length = cycD n ∧ within 50000 (quadX n) := by
  have h := quad_bd n h1 h2
  simp only [Bool.and_eq_true, beq_iff_eq, List.all_eq_true, decide_eq_true_eq] at h
  refine ⟨h.1, fun j hj => ?_⟩
  rw [rd_nat _ _ hj]
  exact h.2 _ (List.getElem_mem hj)
theorem quad_good {n : Nat} (h1 : 1 ≤ n) (h2 : n ≤ 16) : GoodZ n (quadX n) := by
  obtain ⟨a, b⟩ := quad_within h1 h2
  exact ⟨a, fun j hj => by have := b j hj; omega⟩
theorem quad_image {n : Nat} (h1 : 1 ≤ n) (h2 : n ≤ 16) (a : Nat) : GoodZ n (imT n (quadX n) (a : Int)) ∧ imT n (quadX n) (a : Int) = tab (cycD n) (galN n (quadX n) a) := by
  have C := cyc_facts h1 h2
  have := C.le12
  obtain ⟨q1, q2⟩ := quad_within h1 h2
  refine ⟨⟨tab_length _ _, fun j hj => ?_⟩, imT_nat h1 h2 (quad_good h1 h2) a⟩
  rw [imT_len] at hj
  have h := gal_le C h1 (B := 50000) (by omega) q2 (by omega) (a : Int) j
  rw [rd_imT _ _ hj, wrap_id (by omega) (by omega)]
  omega
/-- A moved place: what the law compares. -/
theorem moved_at {n : Int} {p : Nat} {r a : Int} (h : (move2 n p r a).2 = 0) : ∃ m j b : Nat, n = m ∧ r = j ∧ a = b ∧ 1 ≤ m ∧ m ≤ 16 ∧ 3 ≤ p ∧ p ≤ 61 ∧ move2 n p r a = (((j ^ b % p : Nat) : Int), 0) ∧
    gal3 n (quadX m) a = (n, imT m (quadX m) a, 0) ∧ res2 n (quadX m) p ((j ^ b % p : Nat) : Int) = (horn p (j ^ b % p) (quadX m), 0) ∧ res2 n (imT m (quadX m) a) p r = (horn p (j ^ b % p) (quadX m), 0) := by
  unfold move2 at h ⊢
  cases hpl : isPl n p r with
  | false => rw [hpl] at h; cases h
  | true =>
    rw [hpl] at h
    obtain ⟨m, j, rfl, rfl, h1, h2, h3, h4, h5, h6, h7, h8, h9⟩ := isPl_x hpl
    by_cases c : (1 ≤ a ∧ a ≤ (m : Int)) ∧ Int.gcd a m = 1
    · obtain ⟨b, rfl⟩ : ∃ b : Nat, a = b := ⟨a.toNat, by omega⟩
      obtain ⟨⟨a1, a2⟩, a3⟩ := c
      have a3 : Nat.gcd b m = 1 := a3
      obtain ⟨g1, g2⟩ := (root_ok h1 h2 h7 h8 h5 h6 h9).2 b (by omega) (by omega) a3
      have g3 : j ^ b % p < p := Nat.mod_lt _ (by omega)
      obtain ⟨i1, i2⟩ := quad_image h1 h2 b
      have hq := quad_good h1 h2
      refine ⟨m, j, b, rfl, rfl, rfl, h1, h2, h3, h4, ?_, ?_, ?_, ?_⟩
      · rw [cond_true, if_pos ⟨⟨a1, a2⟩, a3⟩, Int.toNat_natCast, Int.toNat_natCast]
      · unfold gal3 told3
        rw [if_pos (isC_of h1 h2 hq.1 (good_small hq)), if_pos ⟨⟨a1, a2⟩, a3⟩, Int.toNat_natCast, if_pos (good_small i1)]
      · unfold res2 plC
        rw [isC_of h1 h2 hq.1 (good_small hq), isPl_of h1 h2 h7 h8 g1 g3 g2, Int.toNat_natCast]
        rfl
      · unfold res2 plC
        rw [isC_of h1 h2 i1.1 (good_small i1), hpl, Int.toNat_natCast, i2, horn_gal h1 h2 (by omega) h9]
        rfl
    · rw [if_neg c] at h; cases h
end Go.Proofs.Ytefdcoeidpbcjaa.F
/- Facts on the functions of places: what is drawn. -/
namespace Go.Proofs.Ytefdcoeidpbcjaa.F
open Go.RowKit Go.Proofs.Ytefdcoeidpbcjaa.R
set_option linter.unusedVariables false
set_option linter.unusedSimpArgs false
def primes7 : List Nat := [3, 5, 7, 11, 13, 17, 19, 31, 37, 41, 43, 61]
def ordsL (p : Nat) : List Int := ((List.range 16).filter fun i => (p - 1) % (i + 1) = 0).map fun i : Nat => (i : Int) + 1
theorem by_primes {P : Nat → Prop} (a1 : P 3) (a2 : P 5) (a3 : P 7) (a4 : P 11) (a5 : P 13) (a6 : P 17) (a7 : P 19) (a8 : P 31) (a9 : P 37) (a10 : P 41) (a11 : P 43) (a12 : P 61) {p : Nat} (h : p ∈ primes7) : P p := by
  simp only [primes7, List.mem_cons, List.not_mem_nil, or_false] at h
  rcases h with rfl | rfl | rfl | rfl | rfl | rfl | rfl | rfl | rfl | rfl | rfl | rfl <;> assumption
theorem ords_tab {p : Nat} (h : p ∈ primes7) : ∀ (j : Nat) (A : Type) (z : A) (K0 : List Int → A), spec_l03DrawOrder.g4 z (j + 40) (p : Int) 1 [] K0 = K0 (ordsL p) :=
  by_primes (P := fun p => ∀ (j : Nat) (A : Type) (z : A) (K0 : List Int → A), spec_l03DrawOrder.g4 z (j + 40) (p : Int) 1 [] K0 = K0 (ordsL p))
    (fun _ _ _ _ => by kernel_rfl) (fun _ _ _ _ => by kernel_rfl) (fun _ _ _ _ => by kernel_rfl) (fun _ _ _ _ => by kernel_rfl) (fun _ _ _ _ => by kernel_rfl) (fun _ _ _ _ => by kernel_rfl) (fun _ _ _ _ => by kernel_rfl) (fun _ _ _ _ => by kernel_rfl) (fun _ _ _ _ => by kernel_rfl) (fun _ _ _ _ => by kernel_rfl) (fun _ _ _ _ => by kernel_rfl) (fun _ _ _ _ => by kernel_rfl) h
def ordsOk (p : Nat) : Bool := isP p && (decide (ordsL p ≠ []) && (ordsL p).all fun n => decide (1 ≤ n ∧ n ≤ 16) && decide (rootsFrom (cycF n.toNat) p (p - 1) 1 ≠ []))
theorem ords_all {p : Nat} (h : p ∈ primes7) : ordsOk p = true :=
  by_primes (P := fun p => ordsOk p = true) (by decide +kernel) (by decide +kernel) (by decide +kernel) (by decide +kernel) (by decide +kernel) (by decide +kernel) (by decide +kernel) (by decide +kernel) (by decide +kernel) (by decide +kernel) (by decide +kernel) (by decide +kernel) h
theorem ords_facts {p : Nat} (h : p ∈ primes7) : isP p = true ∧ ordsL p ≠ [] ∧ ∀ n ∈ ordsL p, 1 ≤ n ∧ n ≤ 16 ∧ rootsFrom (cycF n.toNat) p (p - 1) 1 ≠ [] := by
  have g := ords_all h
  unfold ordsOk at g
  simp only [Bool.and_eq_true, decide_eq_true_eq, List.all_eq_true] at g
  exact ⟨g.1, g.2.1, fun n hn => ⟨(g.2.2 n hn).1.1, (g.2.2 n hn).1.2, (g.2.2 n hn).2⟩⟩
section
variable {A : Type} (z : A)
theorem drawPrime_eq {c : List Int} {i : Int} (hs : Src c i) (h : Int) : ∃ i' h', ∃ p : Nat, (Src c i' ∧ p ∈ primes7) ∧ ∀ k, 3 ≤ k → ∀ Φ : List Int → Int → Int → Int → A, spec_l03DrawPrime z k c i h Φ = Φ c i' h' (p : Int) := by
  obtain ⟨i1, h1, v, ⟨s1, hv⟩, e1⟩ := pick_eq z hs h [3, 5, 7, 7, 11, 13, 13, 17, 19, 31, 37, 41, 43, 61] (by simp)
  have hp : v.toNat ∈ primes7 ∧ v = (v.toNat : Int) := by
    simp only [List.mem_cons, List.not_mem_nil, or_false] at hv
    rcases hv with rfl | rfl | rfl | rfl | rfl | rfl | rfl | rfl | rfl | rfl | rfl | rfl | rfl | rfl <;> exact ⟨by decide, by decide⟩
  refine ⟨i1, h1, v.toNat, ⟨s1, hp.1⟩, fun k hk Φ => ?_⟩
  obtain ⟨k, rfl⟩ := le_ex (show 1 ≤ k by omega)
  simp only [spec_l03DrawPrime, step_succ]
  rw [e1 _ (by omega), ← hp.2]
theorem drawOrder03_eq {c : List Int} {i : Int} (hs : Src c i) (h : Int) {p : Nat} (hp : p ∈ primes7) : ∃ i' h', ∃ n : Nat, (Src c i' ∧ (n : Int) ∈ ordsL p) ∧ ∀ k, 100 ≤ k → ∀ Φ : List Int → Int → Int → Int → A, spec_l03DrawOrder z k c i h (p : Int) Φ = Φ c i' h' (n : Int) := by
  obtain ⟨o1, o2, o3⟩ := ords_facts hp
  have hl : 0 < (ordsL p).length := List.length_pos_iff.2 o2
  obtain ⟨i1, h1, v, ⟨s1, v0, v1, _⟩, e1⟩ := next_eq z hs h ((ordsL p).length : Int)
  have v1 := v1 (by omega)
  obtain ⟨j, rfl⟩ := Int.eq_ofNat_of_zero_le v0
  have hj : j < (ordsL p).length := by omega
  have hm : (ordsL p).getD j 0 ∈ ordsL p := by rw [getD_at hj]; exact List.getElem_mem _
  have hb := o3 _ hm
  refine ⟨i1, h1, ((ordsL p).getD j 0).toNat, ⟨s1, by rw [Int.toNat_of_nonneg (by omega)]; exact hm⟩, fun k hk Φ => ?_⟩
  obtain ⟨k, rfl⟩ := le_ex (show 1 ≤ k by omega)
  obtain ⟨q, rfl⟩ := le_ex (show 40 ≤ k by omega)
  rw [spec_l03DrawOrder, step_succ, ords_tab hp q A z, e1 _ (by omega), inI_at z hj, Int.toNat_of_nonneg (by omega)]
theorem roots07_eq {n p : Nat} (h1 : 1 ≤ n) (h2 : n ≤ 16) (p1 : 1 ≤ p) (hp : p ≤ 1000) (k : Nat) (hk : 1300 ≤ k) (Φ : List Int → A) : spec_l07Roots z k (n : Int) (p : Int) Φ = Φ (rootsFrom (cycF n) p (p - 1) 1) := by
  have C := cyc_facts h1 h2
  have := C.lenF
  have := C.le12
  obtain ⟨k, rfl⟩ := le_ex (show 1 ≤ k by omega)
  simp only [spec_l07Roots, step_succ]
  rw [cyclo_eq z h1 h2 _ (by omega)]
  refine Eq.trans (roots07_g z p1 hp (by omega) (p - 1) 1 k [] (by omega) (by simp) (by omega)) ?_
  rw [List.nil_append]
theorem drawPlace_eq {c : List Int} {i : Int} (hs : Src c i) (h : Int) : ∃ i' h', ∃ n p : Nat, ∃ r, (Src c i' ∧ 1 ≤ n ∧ n ≤ 16 ∧ p ≤ 1000) ∧ ∀ k, 1500 ≤ k → ∀ Φ : List Int → Int → Int → Int → Int → Int → A, spec_l07DrawPlace z k c i h Φ = Φ c i' h' (n : Int) (p : Int) r := by
  obtain ⟨i1, h1, p, ⟨s1, hp⟩, e1⟩ := drawPrime_eq z hs h
  obtain ⟨i2, h2, n, ⟨s2, hn⟩, e2⟩ := drawOrder03_eq z s1 h1 hp
  obtain ⟨o1, o2, o3⟩ := ords_facts hp
  obtain ⟨n1, n2, n3⟩ := o3 _ hn
  obtain ⟨p1, p2⟩ := isP_bd o1
  rw [Int.toNat_natCast] at n3
  have hl : 0 < (rootsFrom (cycF n) p (p - 1) 1).length := List.length_pos_iff.2 n3
  obtain ⟨i3, h3, v, ⟨s3, v0, v1, _⟩, e3⟩ := next_eq z s2 h2 ((rootsFrom (cycF n) p (p - 1) 1).length : Int)
  have v1 := v1 (by omega)
  obtain ⟨j, rfl⟩ := Int.eq_ofNat_of_zero_le v0
  have hj : j < (rootsFrom (cycF n) p (p - 1) 1).length := by omega
  obtain ⟨i4, h4, u, ⟨s4, _⟩, e4⟩ := next_eq z s3 h3 24
  by_cases c0 : u = 0
  · obtain ⟨i5, h5, w, ⟨s5, _⟩, e5⟩ := pick_eq z s4 h4 [0, (p : Int), (w64 (((rootsFrom (cycF n) p (p - 1) 1).getD j 0) + 1))] (by simp)
    refine ⟨i5, h5, n, p, w, ⟨s5, by omega, by omega, by omega⟩, fun k hk Φ => ?_⟩
    obtain ⟨k, rfl⟩ := le_ex (show 1 ≤ k by omega)
    simp only [spec_l07DrawPlace, step_succ]
    rw [e1 _ (by omega), e2 _ (by omega), roots07_eq z (by omega) (by omega) (by omega) (by omega) _ (by omega), e3 _ (by omega), inI_at z hj, e4 _ (by omega), if_pos c0, e5 _ (by omega)]
  by_cases c1 : u = 1
  · obtain ⟨i5, h5, w, ⟨s5, hw⟩, e5⟩ := pick_eq z s4 h4 [9, 67, 2] (by simp)
    have hw : w = (w.toNat : Int) ∧ w.toNat ≤ 1000 := by
      simp only [List.mem_cons, List.not_mem_nil, or_false] at hw
      omega
    refine ⟨i5, h5, n, w.toNat, (rootsFrom (cycF n) p (p - 1) 1).getD j 0, ⟨s5, by omega, by omega, hw.2⟩, fun k hk Φ => ?_⟩
    obtain ⟨k, rfl⟩ := le_ex (show 1 ≤ k by omega)
    simp only [spec_l07DrawPlace, step_succ]
    rw [e1 _ (by omega), e2 _ (by omega), roots07_eq z (by omega) (by omega) (by omega) (by omega) _ (by omega), e3 _ (by omega), inI_at z hj, e4 _ (by omega), if_neg c0, if_pos c1, e5 _ (by omega), ← hw.1]
  · refine ⟨i4, h4, n, p, (rootsFrom (cycF n) p (p - 1) 1).getD j 0, ⟨s4, by omega, by omega, by omega⟩, fun k hk Φ => ?_⟩
    obtain ⟨k, rfl⟩ := le_ex (show 1 ≤ k by omega)
    simp only [spec_l07DrawPlace, step_succ]
    rw [e1 _ (by omega), e2 _ (by omega), roots07_eq z (by omega) (by omega) (by omega) (by omega) _ (by omega), e3 _ (by omega), inI_at z hj, e4 _ (by omega), if_neg c0, if_neg c1]
end
end Go.Proofs.Ytefdcoeidpbcjaa.F
/- Facts on the functions of places: what the law of residues draws; the law. -/
namespace Go.Proofs.Ytefdcoeidpbcjaa.F
open Go.RowKit Go.Proofs.Ytefdcoeidpbcjaa.R
set_option linter.unusedVariables false
set_option linter.unusedSimpArgs false
section
variable {A : Type} (z : A)
theorem inI_0 {n : Nat} {k : Nat → A} (h : 0 < n) : inI z 0 n k = k 0 := inI_at z (i := 0) h
theorem with07_eq {c : List Int} {i : Int} (hs : Src c i) (h : Int) : ∃ i' h' n x, ∃ p : Nat, ∃ r, (Src c i' ∧ x.length ≤ 13 ∧ p ≤ 1000) ∧ ∀ k, 2500 ≤ k → ∀ Φ : List Int → Int → Int → Int → List Int → Int → Int → A, spec_l07With z k c i h Φ = Φ c i' h' n x (p : Int) r := by
  obtain ⟨i1, h1, n, p, r, ⟨s1, n1, n2, hp⟩, e1⟩ := drawPlace_eq z hs h
  obtain ⟨i2, h2, b, ⟨s2, hb⟩, e2⟩ := pick_eq z s1 h1 [2, 9, 100, 1000000000] (by simp)
  have hb : 0 ≤ b ∧ b ≤ 1000000000 := by
    simp only [List.mem_cons, List.not_mem_nil, or_false] at hb
    omega
  obtain ⟨i3, h3, x, ⟨s3, l3, w3⟩, e3⟩ := drawOf_eq z s2 h2 (n := (n : Int)) ⟨by omega, by omega⟩ hb
  rw [Int.toNat_natCast] at l3
  have C := cyc_facts n1 n2
  have := C.le12
  have := C.pos
  cases hpl : isPl (n : Int) p r with
  | false =>
    obtain ⟨i4, h4, n', x', ⟨s4, l4⟩, e4⟩ := bad_eq z s3 h3 (n : Int) (x := x) (by omega) (by omega)
    refine ⟨i4, h4, n', x', p, r, ⟨s4, by omega, hp⟩, fun k hk Φ => ?_⟩
    obtain ⟨k, rfl⟩ := le_ex (show 1 ≤ k by omega)
    simp only [spec_l07With, step_succ]
    rw [e1 _ (by omega), e2 _ (by omega), e3 _ (by omega), place07_eq z _ hp _ _ (by omega), hpl, cond_false, e4 _ (by omega)]
  | true =>
    obtain ⟨m, j, em, rfl, _, _, p3, p61, j1, j2, _, _, _⟩ := isPl_x hpl
    obtain ⟨i4, h4, u, ⟨s4, _⟩, e4⟩ := next_eq z s3 h3 3
    by_cases c0 : u = 0
    · obtain ⟨i5, h5, w, ⟨s5, _⟩, e5⟩ := next_eq z s4 h4 2
      have ly : (x.set 0 (w64 (x.getD 0 0 - horn p j x))).length = cycD n := by rw [List.length_set, l3]
      have ev : ∀ k, 100 ≤ k → ∀ Φ : Int → A, spec_l07Value z k x (j : Int) (p : Int) Φ = Φ (horn p j x) := fun k hk Φ => value07_eq z (by omega) (by omega) (by omega) (by omega) k (by omega) Φ
      have by1 : within 16000000000 (x.set 0 (w64 (x.getD 0 0 - horn p j x))) := by
        obtain ⟨b1, b2⟩ := horn_bd (p := p) (by omega) j x
        have b3 := w3 0 (by omega)
        have b4 : rd x ((0 : Nat) : Int) = x.getD 0 0 := rfl
        rw [b4] at b3
        refine within_set (fun q hq => by have := w3 q hq; omega) 0 ?_
        rw [w64_id (by omega) (by omega)]
        omega
      obtain ⟨y, hy⟩ : ∃ y, y = w64 (x.getD 0 0 - horn p j x) := ⟨_, rfl⟩
      rw [← hy] at ly by1
      by_cases c1 : w = 0
      · obtain ⟨R, ⟨lR, _⟩, e6⟩ := times01_eq z n1 n2 (n : Int) ly ly by1 by1
        cases hok : okB n (x.set 0 y) (x.set 0 y) with
        | true =>
          obtain ⟨i7, h7, n', x', ⟨s7, l7⟩, e7⟩ := bad_eq z s5 h5 (n : Int) (x := R) (by omega) (by omega)
          refine ⟨i7, h7, n', x', p, (j : Int), ⟨s7, by omega, hp⟩, fun k hk Φ => ?_⟩
          obtain ⟨k, rfl⟩ := le_ex (show 1 ≤ k by omega)
          simp only [spec_l07With, step_succ]
          rw [e1 _ (by omega), e2 _ (by omega), e3 _ (by omega), place07_eq z _ hp _ _ (by omega), hpl, cond_true, e4 _ (by omega), if_pos c0, inI_0 z (by omega), ev _ (by omega), inI_0 z (by omega), e5 _ (by omega), ← hy, if_pos c1, e6 _ (by omega), hok, cond_true, e7 _ (by omega)]
        | false =>
          obtain ⟨i7, h7, n', x', ⟨s7, l7⟩, e7⟩ := bad_eq z s5 h5 (n : Int) (x := x.set 0 y) (by omega) (by omega)
          refine ⟨i7, h7, n', x', p, (j : Int), ⟨s7, by omega, hp⟩, fun k hk Φ => ?_⟩
          obtain ⟨k, rfl⟩ := le_ex (show 1 ≤ k by omega)
          simp only [spec_l07With, step_succ]
          rw [e1 _ (by omega), e2 _ (by omega), e3 _ (by omega), place07_eq z _ hp _ _ (by omega), hpl, cond_true, e4 _ (by omega), if_pos c0, inI_0 z (by omega), ev _ (by omega), inI_0 z (by omega), e5 _ (by omega), ← hy, if_pos c1, e6 _ (by omega), hok, cond_false, e7 _ (by omega)]
      · obtain ⟨i7, h7, n', x', ⟨s7, l7⟩, e7⟩ := bad_eq z s5 h5 (n : Int) (x := x.set 0 y) (by omega) (by omega)
        refine ⟨i7, h7, n', x', p, (j : Int), ⟨s7, by omega, hp⟩, fun k hk Φ => ?_⟩
        obtain ⟨k, rfl⟩ := le_ex (show 1 ≤ k by omega)
        simp only [spec_l07With, step_succ]
        rw [e1 _ (by omega), e2 _ (by omega), e3 _ (by omega), place07_eq z _ hp _ _ (by omega), hpl, cond_true, e4 _ (by omega), if_pos c0, inI_0 z (by omega), ev _ (by omega), inI_0 z (by omega), e5 _ (by omega), ← hy, if_neg c1, e7 _ (by omega)]
    · obtain ⟨i5, h5, n', x', ⟨s5, l5⟩, e5⟩ := bad_eq z s4 h4 (n : Int) (x := x) (by omega) (by omega)
      refine ⟨i5, h5, n', x', p, (j : Int), ⟨s5, by omega, hp⟩, fun k hk Φ => ?_⟩
      obtain ⟨k, rfl⟩ := le_ex (show 1 ≤ k by omega)
      simp only [spec_l07With, step_succ]
      rw [e1 _ (by omega), e2 _ (by omega), e3 _ (by omega), place07_eq z _ hp _ _ (by omega), hpl, cond_true, e4 _ (by omega), if_neg c0, e5 _ (by omega)]
theorem drawSymbol_eq {c : List Int} (hc : c.length ≤ 4096) (hb : ∀ x ∈ c, 0 ≤ x ∧ x ≤ 255) : ∃ n x, ∃ p : Nat, ∃ r, (x.length ≤ 13 ∧ p ≤ 1000) ∧ ∀ k, 5000 ≤ k → ∀ Φ : Int → List Int → Int → Int → A, spec_DrawSymbolAt z k c Φ = Φ n x (p : Int) r := by
  obtain ⟨h, i, s, e⟩ := from_eq z hc hb
  obtain ⟨i1, h1, n, x, p, r, ⟨s1, l1, hp⟩, e1⟩ := with07_eq z s h
  refine ⟨n, x, p, r, ⟨l1, hp⟩, fun k hk Φ => ?_⟩
  obtain ⟨k, rfl⟩ := le_ex (show 1 ≤ k by omega)
  simp only [spec_DrawSymbolAt, step_succ]
  rw [e _ (by omega), e1 _ (by omega)]
theorem drawResidue_eq {c : List Int} (hc : c.length ≤ 4096) (hb : ∀ x ∈ c, 0 ≤ x ∧ x ≤ 255) : ∃ n x, ∃ p : Nat, ∃ r, (x.length ≤ 13 ∧ p ≤ 1000) ∧ ∀ k, 5000 ≤ k → ∀ Φ : Int → List Int → Int → Int → A, spec_DrawResidueAt z k c Φ = Φ n x (p : Int) r := by
  obtain ⟨h, i, s, e⟩ := from_eq z hc hb
  obtain ⟨i1, h1, n, x, p, r, ⟨s1, l1, hp⟩, e1⟩ := with07_eq z s h
  refine ⟨n, x, p, r, ⟨l1, hp⟩, fun k hk Φ => ?_⟩
  obtain ⟨k, rfl⟩ := le_ex (show 1 ≤ k by omega)
  simp only [spec_DrawResidueAt, step_succ]
  rw [e _ (by omega), e1 _ (by omega)]
theorem drawMove_eq {c : List Int} (hc : c.length ≤ 4096) (hb : ∀ x ∈ c, 0 ≤ x ∧ x ≤ 255) : ∃ n, ∃ p : Nat, ∃ r a, p ≤ 1000 ∧ ∀ k, 5000 ≤ k → ∀ Φ : Int → Int → Int → Int → A, spec_DrawMovePlace z k c Φ = Φ n (p : Int) r a := by
  obtain ⟨h, i, s, e⟩ := from_eq z hc hb
  obtain ⟨i1, h1, n, p, r, ⟨s1, n1, n2, hp⟩, e1⟩ := drawPlace_eq z s h
  obtain ⟨i2, h2, v, s2, e2⟩ := near_eq z s1 h1 15
  obtain ⟨i3, h3, u, ⟨s3, _⟩, e3⟩ := pick_eq z s2 h2 [1, (w64 ((n : Int) - 1)), 5, 7, (w64 (1 + v))] (by simp)
  refine ⟨(n : Int), p, r, u, hp, fun k hk Φ => ?_⟩
  obtain ⟨k, rfl⟩ := le_ex (show 1 ≤ k by omega)
  simp only [spec_DrawMovePlace, step_succ]
  rw [e _ (by omega), e1 _ (by omega), e2 _ (by omega), e3 _ (by omega)]
theorem law_g25 {c : List Int} (hc : c.length ≤ 4096) (hb : ∀ x ∈ c, 0 ≤ x ∧ x ≤ 255) {K0 : Bool → A} (k : Nat) (hk : 5901 ≤ k) : laws_FnResidues.g25 z k c K0 = K0 true := by
  obtain ⟨k, rfl, hk⟩ := up (show 5900 + 1 ≤ k by omega)
  obtain ⟨n, x, p, r, ⟨l, hp⟩, e⟩ := drawResidue_eq z hc hb
  rw [laws_FnResidues.g25, e k (by omega), residueAt_eq z n (by omega) hp r k (by omega), specResidueAt_eq z n (by omega) hp r k (by omega), if_pos rfl, decide_eq_true rfl]
theorem law_g10 {c : List Int} (hc : c.length ≤ 4096) (hb : ∀ x ∈ c, 0 ≤ x ∧ x ≤ 255) {K0 : Bool → A} (k : Nat) (hk : 5902 ≤ k) : laws_FnResidues.g10 z k c K0 = K0 true := by
  obtain ⟨k, rfl, hk⟩ := up (show 5901 + 1 ≤ k by omega)
  obtain ⟨n, p, r, a, hp, e⟩ := drawMove_eq z hc hb
  rw [laws_FnResidues.g10, e k (by omega), movePlace_eq z n hp r a k (by omega), specMovePlace_eq z n hp r a k (by omega), if_neg (fun h => h rfl), if_neg (fun h => h rfl), law_g25 z hc hb k (by omega)]
  by_cases c0 : (move2 n p r a).2 = 0
  · obtain ⟨m, j, b, rfl, rfl, rfl, m1, m2, p3, p61, q1, q2, q3, q4⟩ := moved_at c0
    obtain ⟨q, rfl⟩ := le_ex (show 300 ≤ k by omega)
    have g := quad_good m1 m2
    have := (cyc_facts m1 m2).le12
    have lg := g.1
    rw [if_pos c0, quad_tab m m1 m2 (q + 260) A z, cyc_tab m m1 m2 q A z, galoisImage_eq z _ (by omega) _ _ (by omega), q1, q2, residueAt_eq z _ (by omega) hp _ _ (by omega), q3, residueAt_eq z _ (by rw [imT_len]; omega) hp _ _ (by omega), q4, if_neg (fun h => h rfl), if_neg (fun h => h rfl), if_neg (fun h => h rfl), if_neg (fun h => h rfl), if_neg (fun h => h rfl)]
  · rw [if_neg c0]
/-- The law answers true. -/
theorem law_eq {c : List Int} (hb : ∀ x ∈ c, 0 ≤ x ∧ x ≤ 255) (k : Nat) (hk : 6003 ≤ k) (Φ : Bool → A) : laws_FnResidues z k c Φ = Φ true := by
  obtain ⟨k, rfl⟩ := le_ex (show 2 ≤ k by omega)
  simp only [laws_FnResidues, laws_big, step_succ]
  by_cases hc : c.length ≤ 4096
  · rw [decide_eq_false (by omega), cond_false]
    obtain ⟨n, x, p, r, ⟨l, hp⟩, e⟩ := drawSymbol_eq z hc hb
    rw [e _ (by omega), symbolAt_eq z n (by omega) hp r _ (by omega), specSymbolAt_eq z n (by omega) hp r _ (by omega), if_neg (fun h => h rfl), if_neg (fun h => h rfl), law_g10 z hc hb _ (by omega)]
    by_cases c0 : (sym2 n x p r).2 = 0
    · have l1 := mul3_len (m := n) (n := n) (x := x) (y := x)
      rw [if_pos c0, multiply_eq z _ _ (by omega) (by omega) _ (by omega)]
      by_cases c1 : (mul3 n x n x).2.2 = 0
      · obtain ⟨P, g1, _, _, g4, g5⟩ := mul3_zero c1
        obtain ⟨a1, a2, a3, a4, a5, a6, a7, a8, a9, a10, a11, a12, a13⟩ := square_at c0 g4
        rw [g5] at l1 ⊢
        have hq := Int.mul_le_mul (c := 61) (show (res2 n x p r).1 ≤ 61 by omega) (show (res2 n x p r).1 ≤ 61 by omega) a12 (by omega)
        have hq0 := Int.mul_nonneg a12 a12
        rw [if_pos rfl, symbolAt_eq z n (by omega) hp r _ (by omega), residueAt_eq z n (by omega) hp r _ (by omega), residueAt_eq z n (by omega) hp r _ (by omega), if_neg (fun h => h a5), if_neg (fun h => h a6), if_neg (fun h => h a7), gd_ok z (by omega), w64_id (x := 2 * _) (by omega) (by omega), if_neg (fun h => h a8), gd_ok z (by omega), w64_id (by omega) (by omega), if_neg (fun h => h a11)]
      · rw [if_neg c1]
    · rw [if_neg c0]
  · rw [decide_eq_true (by omega), cond_true]
end
end Go.Proofs.Ytefdcoeidpbcjaa.F
