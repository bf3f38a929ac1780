/- Facts on what the printed functions tell. -/
import Derived.Test.YtlpooghphoohcaaZF1
import Derived.Test.YtlpooghphoohcaaZV
/- Facts on the printed functions of the first layer: ranges, divisors, totients, lists. -/
namespace Go.Proofs.Ytlpooghphoohcaa.F
open Go.RowKit Go.Proofs.Ytlpooghphoohcaa.R
set_option linter.unusedVariables false
set_option linter.unusedSimpArgs false
theorem by16 {P : Nat → Prop} (h1 : P 1) (h2 : P 2) (h3 : P 3) (h4 : P 4) (h5 : P 5) (h6 : P 6) (h7 : P 7) (h8 : P 8) (h9 : P 9) (h10 : P 10) (h11 : P 11) (h12 : P 12) (h13 : P 13) (h14 : P 14) (h15 : P 15) (h16 : P 16) : ∀ n : Nat, 1 ≤ n → n ≤ 16 → P n
  | 1, _, _ => h1 | 2, _, _ => h2 | 3, _, _ => h3 | 4, _, _ => h4 | 5, _, _ => h5 | 6, _, _ => h6 | 7, _, _ => h7 | 8, _, _ => h8
  | 9, _, _ => h9 | 10, _, _ => h10 | 11, _, _ => h11 | 12, _, _ => h12 | 13, _, _ => h13 | 14, _, _ => h14 | 15, _, _ => h15 | 16, _, _ => h16
  | 0, h, _ => absurd h (by omega)
  | n + 17, _, h => absurd h (by omega)
theorem le_ex {K k : Nat} (h : K ≤ k) : ∃ j, k = j + K := ⟨k - K, by omega⟩
theorem tmod_lt {a n : Int} (hn : 1 ≤ n) : -n < Int.tmod a n ∧ Int.tmod a n < n := ⟨Int.lt_tmod_of_pos a (by omega), Int.tmod_lt_of_pos a (by omega)⟩
theorem tmod_emod (a n : Int) : Int.tmod a n % n = a % n := by
  rw [Int.tmod_def, Int.sub_mul_emod_self_left]
theorem tmod_zero {a n : Int} : Int.tmod a n = 0 ↔ a % n = 0 := by
  rw [← Int.dvd_iff_tmod_eq_zero, Int.dvd_iff_emod_eq_zero]
section
variable {A : Type} (z : A)
theorem within_eq (k : Nat) (a lo hi : Int) (Φ : Bool → A) : impl_within z (k + 1) a lo hi Φ = Φ (decide (lo ≤ a ∧ a ≤ hi)) := by
  simp only [impl_within, step_succ]
  by_cases h : lo ≤ a <;> simp [h]
theorem in_eq (k : Nat) (a lo hi : Int) (Φ : Bool → A) : spec_l01In z (k + 1) a lo hi Φ = Φ (decide (lo ≤ a ∧ a ≤ hi)) := by
  simp only [spec_l01In, step_succ]
  by_cases h : lo ≤ a <;> simp [h]
theorem isOrder_eq (k : Nat) (n : Int) (Φ : Bool → A) : impl_isOrder z (k + 2) n Φ = Φ (decide (1 ≤ n ∧ n ≤ 16)) := by
  simp only [impl_isOrder, step_succ, within_eq]
theorem around_eq (k : Nat) {a n : Int} (hn : 1 ≤ n) (hn2 : n ≤ 1000000) (Φ : Int → A) : impl_around z (k + 1) a n Φ = Φ (a % n) := by
  obtain ⟨a0, a1⟩ := tmod_lt (a := a) hn
  simp only [impl_around, step_succ]
  rw [gd_ok z (by omega), gd_ok z (by omega), w64_id (by omega) (by omega), Int.tmod_eq_emod_of_nonneg (by omega), Int.add_emod_right, tmod_emod]
/-! divisors -/
theorem igcd_g {K0 : Int → A} : ∀ (d k : Nat) (a b : Int), 0 ≤ a → 0 ≤ b → b.toNat ≤ d → d < k → impl_gcd.g3 z k a b K0 = K0 (Int.gcd a b)
  | d, 0, a, b, _, _, _, hk => absurd hk (by omega)
  | d, k + 1, a, b, ha, hb, hd, hk => by
    rw [impl_gcd.g3]
    by_cases h : 0 < b
    · have h1 := Int.tmod_lt_of_pos a h
      have h2 := Int.tmod_nonneg b ha
      rw [if_pos h, gd_ok z (by omega)]
      cases d with
      | zero => omega
      | succ d => rw [igcd_g d k b _ hb h2 (by omega) (by omega), gcd_tmod a b ha h]
    · have : b = 0 := by omega
      subst this
      rw [if_neg h, Int.gcd_zero_right, Int.natAbs_of_nonneg ha]
theorem size_eq (k : Nat) {a : Int} (h : -9223372036854775808 < a ∧ a ≤ 9223372036854775807) (Φ : Int → A) : impl_size z (k + 1) a Φ = Φ (a.natAbs : Int) := by
  simp only [impl_size, step_succ]
  rw [w64_id (by omega) (by omega)]
  congr 1
  unfold maxI
  split <;> omega
theorem igcd_eq {a b : Int} (ha : -9223372036854775808 < a ∧ a ≤ 9223372036854775807) (hb : -9223372036854775808 < b ∧ b ≤ 9223372036854775807) (k : Nat) (hk : b.natAbs + 2 ≤ k) (Φ : Int → A) : impl_gcd z k a b Φ = Φ (Int.gcd a b) := by
  obtain ⟨j, rfl, hj⟩ := up hk
  obtain ⟨i, rfl, hi⟩ := up hj
  simp only [impl_gcd, step_succ]
  rw [size_eq z i ha, size_eq z i hb, igcd_g z b.natAbs (i + 1) _ _ (by omega) (by omega) (by omega) (by omega)]
  simp [Int.gcd]
theorem sgcd_g {K0 : Int → A} : ∀ (d k : Nat) (a b : Int), 0 ≤ a → 0 ≤ b → b.toNat ≤ d → d < k → spec_l01Gcd.g2 z k a b K0 = K0 (Int.gcd a b)
  | d, 0, a, b, _, _, _, hk => absurd hk (by omega)
  | d, k + 1, a, b, ha, hb, hd, hk => by
    rw [spec_l01Gcd.g2]
    by_cases h : b ≠ 0
    · have hp : 0 < b := by omega
      have h1 := Int.tmod_lt_of_pos a hp
      have h2 := Int.tmod_nonneg b ha
      rw [if_pos h, gd_ok z h]
      cases d with
      | zero => omega
      | succ d => rw [sgcd_g d k b _ hb h2 (by omega) (by omega), gcd_tmod a b ha hp]
    · have : b = 0 := by omega
      subst this
      rw [if_neg h, Int.gcd_zero_right, Int.natAbs_of_nonneg ha]
theorem sgcd_eq {a b : Int} (ha : 0 ≤ a ∧ a ≤ 9223372036854775807) (hb : 0 ≤ b ∧ b ≤ 9223372036854775807) (k : Nat) (hk : b.natAbs + 2 ≤ k) (Φ : Int → A) : spec_l01Gcd z k a b Φ = Φ (Int.gcd a b) := by
  obtain ⟨j, rfl, hj⟩ := up hk
  simp only [spec_l01Gcd, step_succ]
  rw [sgcd_g z b.natAbs j _ _ ha.1 hb.1 (by omega) (by omega)]
  have hg : (Int.gcd a b : Int) ≤ 9223372036854775807 := by
    unfold Int.gcd
    rcases Nat.eq_zero_or_pos a.natAbs with h | h
    · rw [h, Nat.gcd_zero_left]; omega
    · have := Nat.gcd_le_left b.natAbs h; omega
  rw [w64_id (by omega) (by omega)]
  congr 1
  unfold maxI
  split <;> omega
theorem isPrimeTo_eq {n : Nat} (h1 : 1 ≤ n) (h2 : n ≤ 1000) (a : Int) (k : Nat) (hk : 1010 ≤ k) (Φ : Bool → A) : impl_isPrimeTo z k a n Φ = Φ (decide ((1 ≤ a ∧ a ≤ n) ∧ Int.gcd a n = 1)) := by
  obtain ⟨j, rfl, hj⟩ := up hk
  obtain ⟨i, rfl, hi⟩ := up hj
  simp only [impl_isPrimeTo, step_succ]
  rw [within_eq]
  by_cases h : 1 ≤ a ∧ a ≤ (n : Int)
  · rw [decide_eq_true h, cond_true, igcd_eq z (by omega) (by omega) _ (by omega)]
    congr 1
    simp only [h, true_and, and_self]
    congr 1
    apply propext
    omega
  · rw [decide_eq_false h, cond_false]
    simp [h]
end
/-! tables -/
theorem totient_tab : ∀ n : Nat, 1 ≤ n → n ≤ 16 → ∀ (j : Nat) (A : Type) (z : A) (Φ : Int → A), impl_totient z (j + 60) (n : Int) Φ = Φ (cycD n : Int) :=
  by16 (fun _ _ _ _ => by kernel_rfl) (fun _ _ _ _ => by kernel_rfl) (fun _ _ _ _ => by kernel_rfl) (fun _ _ _ _ => by kernel_rfl) (fun _ _ _ _ => by kernel_rfl) (fun _ _ _ _ => by kernel_rfl) (fun _ _ _ _ => by kernel_rfl) (fun _ _ _ _ => by kernel_rfl) (fun _ _ _ _ => by kernel_rfl) (fun _ _ _ _ => by kernel_rfl) (fun _ _ _ _ => by kernel_rfl) (fun _ _ _ _ => by kernel_rfl) (fun _ _ _ _ => by kernel_rfl) (fun _ _ _ _ => by kernel_rfl) (fun _ _ _ _ => by kernel_rfl) (fun _ _ _ _ => by kernel_rfl)
theorem phi_tab : ∀ n : Nat, 1 ≤ n → n ≤ 16 → ∀ (j : Nat) (A : Type) (z : A) (Φ : Int → A), spec_l01Phi z (j + 60) (n : Int) Φ = Φ (cycD n : Int) :=
  by16 (fun _ _ _ _ => by kernel_rfl) (fun _ _ _ _ => by kernel_rfl) (fun _ _ _ _ => by kernel_rfl) (fun _ _ _ _ => by kernel_rfl) (fun _ _ _ _ => by kernel_rfl) (fun _ _ _ _ => by kernel_rfl) (fun _ _ _ _ => by kernel_rfl) (fun _ _ _ _ => by kernel_rfl) (fun _ _ _ _ => by kernel_rfl) (fun _ _ _ _ => by kernel_rfl) (fun _ _ _ _ => by kernel_rfl) (fun _ _ _ _ => by kernel_rfl) (fun _ _ _ _ => by kernel_rfl) (fun _ _ _ _ => by kernel_rfl) (fun _ _ _ _ => by kernel_rfl) (fun _ _ _ _ => by kernel_rfl)
theorem cyclo_tab : ∀ n : Nat, 1 ≤ n → n ≤ 16 → ∀ (j : Nat) (A : Type) (z : A) (Φ : List Int → A), spec_l01Cyclotomic z (j + 200) (n : Int) Φ = Φ (cycF n) :=
  by16 (fun _ _ _ _ => by kernel_rfl) (fun _ _ _ _ => by kernel_rfl) (fun _ _ _ _ => by kernel_rfl) (fun _ _ _ _ => by kernel_rfl) (fun _ _ _ _ => by kernel_rfl) (fun _ _ _ _ => by kernel_rfl) (fun _ _ _ _ => by kernel_rfl) (fun _ _ _ _ => by kernel_rfl) (fun _ _ _ _ => by kernel_rfl) (fun _ _ _ _ => by kernel_rfl) (fun _ _ _ _ => by kernel_rfl) (fun _ _ _ _ => by kernel_rfl) (fun _ _ _ _ => by kernel_rfl) (fun _ _ _ _ => by kernel_rfl) (fun _ _ _ _ => by kernel_rfl) (fun _ _ _ _ => by kernel_rfl)
theorem field_tab : ∀ n : Nat, 1 ≤ n → n ≤ 16 → ∀ (j : Nat) (A : Type) (z : A) (Φ : Int → Int → List (List Int) → A), impl_fieldOf z (j + 200) (n : Int) Φ = Φ n (cycD n : Int) (cycP n) :=
  by16 (fun _ _ _ _ => by kernel_rfl) (fun _ _ _ _ => by kernel_rfl) (fun _ _ _ _ => by kernel_rfl) (fun _ _ _ _ => by kernel_rfl) (fun _ _ _ _ => by kernel_rfl) (fun _ _ _ _ => by kernel_rfl) (fun _ _ _ _ => by kernel_rfl) (fun _ _ _ _ => by kernel_rfl) (fun _ _ _ _ => by kernel_rfl) (fun _ _ _ _ => by kernel_rfl) (fun _ _ _ _ => by kernel_rfl) (fun _ _ _ _ => by kernel_rfl) (fun _ _ _ _ => by kernel_rfl) (fun _ _ _ _ => by kernel_rfl) (fun _ _ _ _ => by kernel_rfl) (fun _ _ _ _ => by kernel_rfl)
section
variable {A : Type} (z : A) {n : Nat} (h1 : 1 ≤ n) (h2 : n ≤ 16)
include h1 h2
theorem totient_eq (k : Nat) (hk : 60 ≤ k) (Φ : Int → A) : impl_totient z k (n : Int) Φ = Φ (cycD n : Int) := by
  obtain ⟨j, rfl⟩ := le_ex hk
  exact totient_tab n h1 h2 j A z Φ
theorem phi_eq (k : Nat) (hk : 60 ≤ k) (Φ : Int → A) : spec_l01Phi z k (n : Int) Φ = Φ (cycD n : Int) := by
  obtain ⟨j, rfl⟩ := le_ex hk
  exact phi_tab n h1 h2 j A z Φ
theorem cyclo_eq (k : Nat) (hk : 200 ≤ k) (Φ : List Int → A) : spec_l01Cyclotomic z k (n : Int) Φ = Φ (cycF n) := by
  obtain ⟨j, rfl⟩ := le_ex hk
  exact cyclo_tab n h1 h2 j A z Φ
theorem field_eq (k : Nat) (hk : 200 ≤ k) (Φ : Int → Int → List (List Int) → A) : impl_fieldOf z k (n : Int) Φ = Φ n (cycD n : Int) (cycP n) := by
  obtain ⟨j, rfl⟩ := le_ex hk
  exact field_tab n h1 h2 j A z Φ
end
end Go.Proofs.Ytlpooghphoohcaa.F
/- Facts on the printed functions of the first layer: what is told of lists. -/
namespace Go.Proofs.Ytlpooghphoohcaa.F
open Go.RowKit Go.Proofs.Ytlpooghphoohcaa.R
set_option linter.unusedVariables false
set_option linter.unusedSimpArgs false
def smallB (B : Int) (l : List Int) : Bool := l.all fun x => decide (-B ≤ x ∧ x ≤ B)
theorem small_one (l : List Int) : smallB 1000000000 l = smallL l := rfl
theorem w64_up {i : Nat} (h : i < 2000000) : w64 ((i : Int) + 1) = ((i + 1 : Nat) : Int) := by rw [w64_id (by omega) (by omega)]; omega
theorem getD_at {l : List Int} {i : Nat} (h : i < l.length) : l.getD i 0 = l[i] := by simp [List.getD_eq_getElem?_getD, h]
theorem drop_cons {l : List Int} {i : Nat} (h : i < l.length) : l.drop i = l.getD i 0 :: l.drop (i + 1) := by
  rw [getD_at h]; exact List.drop_eq_getElem_cons h
section
variable {A : Type} (z : A)
theorem index_g {l : List Int} (hl : l.length ≤ 1100000) {B : Int} (hB : 0 ≤ B ∧ B ≤ 1000000000) {K0 : Int → A} {K1 Kt : A} (hK : ∀ i : Nat, K0 (i : Int) = Kt) : ∀ (d i k : Nat), i + d = l.length → d + 4 ≤ k →
    slices_IndexFunc_Sint64_int64_c149.g3 z k l B (l.length : Int) (i : Int) K0 K1 = bif smallB B (l.drop i) then K1 else Kt
  | d, i, 0, _, hk => absurd hk (by omega)
  | 0, i, k + 1, hi, hk => by
    rw [slices_IndexFunc_Sint64_int64_c149.g3, if_neg (by omega), List.drop_eq_nil_of_le (by omega)]
    rfl
  | d + 1, i, k + 1, hi, hk => by
    obtain ⟨j, rfl, hj⟩ := up (show d + 3 + 1 ≤ k by omega)
    obtain ⟨m, rfl, hm⟩ := up hj
    have hlt : i < l.length := by omega
    rw [slices_IndexFunc_Sint64_int64_c149.g3, if_pos (by omega), inI_at z hlt]
    simp only [impl_areSmall_1, step_succ]
    rw [w64_id (by omega) (by omega), within_eq, drop_cons hlt]
    simp only [smallB, List.all_cons]
    by_cases h : 0 - B ≤ l.getD i 0 ∧ l.getD i 0 ≤ B
    · rw [decide_eq_true h, decide_eq_true (show -B ≤ l.getD i 0 ∧ l.getD i 0 ≤ B by omega), Bool.not_true, cond_false, w64_up (by omega), Bool.true_and]
      exact index_g hl hB hK d (i + 1) (m + 1 + 1) (by omega) (by omega)
    · rw [decide_eq_false h, decide_eq_false (show ¬ (-B ≤ l.getD i 0 ∧ l.getD i 0 ≤ B) by omega), Bool.not_false, cond_true, Bool.false_and, cond_false]
      exact hK i
theorem areSmall_eq {l : List Int} (hl : l.length ≤ 1100000) {B : Int} (hB : 0 ≤ B ∧ B ≤ 1000000000) (k : Nat) (hk : l.length + 8 ≤ k) (Φ : Bool → A) : impl_areSmall z k l B Φ = Φ (smallB B l) := by
  obtain ⟨k, rfl⟩ := le_ex (show 3 ≤ k by omega)
  simp only [impl_areSmall, slices_ContainsFunc_Sint64_int64_c149, slices_IndexFunc_Sint64_int64_c149, step_succ]
  have h := index_g z hl hB (K0 := fun v1 => Φ (!decide (0 ≤ v1))) (K1 := Φ (!decide ((0 : Int) ≤ -1))) (Kt := Φ false) (fun i => by rw [decide_eq_true (show (0 : Int) ≤ (i : Int) by omega), Bool.not_true]) l.length 0 k (by omega) (by omega)
  rw [List.drop_zero] at h
  refine Eq.trans h ?_
  cases smallB B l <;> rfl
/-- Lists alike. -/
theorem like_g {a b : List Int} (ha : a.length ≤ 1100000) (hab : a.length = b.length) {K0 : Bool → A} {K1 : A} : ∀ (d i k : Nat), i + d = a.length → d + 1 ≤ k →
    laws_likeInts.g6 z k a b (i : Int) K0 K1 = bif decide (a.drop i = b.drop i) then K1 else K0 false
  | d, i, 0, _, hk => absurd hk (by omega)
  | 0, i, k + 1, hi, hk => by
    rw [laws_likeInts.g6, if_neg (by omega), List.drop_eq_nil_of_le (by omega), List.drop_eq_nil_of_le (by omega)]
    rfl
  | d + 1, i, k + 1, hi, hk => by
    have hlt : i < a.length := by omega
    rw [laws_likeInts.g6, if_pos (by omega), inI_at z hlt, inI_at z (show i < b.length by omega), drop_cons hlt, drop_cons (show i < b.length by omega)]
    by_cases h : a.getD i 0 = b.getD i 0
    · rw [if_neg (by simpa using h), w64_up (by omega), like_g ha hab d (i + 1) k (by omega) (by omega), h]
      simp
    · rw [if_pos (by simpa using h), decide_eq_false (by simp only [List.cons.injEq]; exact fun e => h e.1), cond_false]
theorem like_eq {a b : List Int} (ha : a.length ≤ 1100000) (k : Nat) (hk : a.length + 2 ≤ k) (Φ : Bool → A) : laws_likeInts z k a b Φ = Φ (decide (a = b)) := by
  obtain ⟨k, rfl, hk⟩ := up hk
  simp only [laws_likeInts, step_succ]
  by_cases h : a.length = b.length
  · rw [if_neg (by omega)]
    have h := like_g z ha h (K0 := Φ) (K1 := Φ true) a.length 0 k (by omega) (by omega)
    rw [List.drop_zero, List.drop_zero] at h
    refine Eq.trans h ?_
    cases decide (a = b) <;> rfl
  · rw [if_pos (by omega), decide_eq_false (fun e => h (by rw [e]))]
end
end Go.Proofs.Ytlpooghphoohcaa.F
/- Facts on the printed functions of the first layer: numbers of a field, reduced, turned, lifted. -/
namespace Go.Proofs.Ytlpooghphoohcaa.F
open Go.RowKit Go.Proofs.Ytlpooghphoohcaa.R
set_option linter.unusedVariables false
set_option linter.unusedSimpArgs false
def isC (n : Int) (l : List Int) : Bool := decide (1 ≤ n ∧ n ≤ 16) && (decide (l.length = cycD n.toNat) && smallL l)
theorem isC_len {n : Int} {l : List Int} (h : isC n l = true) : (∃ m : Nat, n = m ∧ 1 ≤ m ∧ m ≤ 16 ∧ l.length = cycD m) ∧ smallL l = true := by
  simp only [isC, Bool.and_eq_true, decide_eq_true_eq] at h
  exact ⟨⟨n.toNat, by omega, by omega, by omega, h.2.1⟩, h.2.2⟩
theorem le12 {n : Nat} (h1 : 1 ≤ n) (h2 : n ≤ 16) : cycD n ≤ 12 := (cyc_facts h1 h2).le12
section
variable {A : Type} (z : A)
theorem isCyclo_eq (n : Int) {l : List Int} (hl : l.length ≤ 1100000) (k : Nat) (hk : l.length + 70 ≤ k) (Φ : Bool → A) : impl_IsCyclo z k n l Φ = Φ (isC n l) := by
  obtain ⟨k, rfl⟩ := le_ex (show 3 ≤ k by omega)
  simp only [impl_IsCyclo, step_succ]
  rw [isOrder_eq]
  by_cases h : 1 ≤ n ∧ n ≤ 16
  · obtain ⟨m, rfl⟩ : ∃ m : Nat, n = m := ⟨n.toNat, by omega⟩
    rw [decide_eq_true h, cond_true, totient_eq z (by omega) (by omega) _ (by omega)]
    simp only [isC, Int.toNat_natCast, decide_eq_true h, Bool.true_and]
    by_cases hd : l.length = cycD m
    · rw [if_pos (by omega), areSmall_eq z hl (by omega) _ (by omega), decide_eq_true hd, Bool.true_and, small_one]
    · rw [if_neg (by omega), decide_eq_false hd, Bool.false_and]
  · rw [decide_eq_false h, cond_false]
    simp only [isC, decide_eq_false h, Bool.false_and]
def codeC (m : Int) (a : List Int) (n : Int) (b : List Int) : Int := bif isC m a && isC n b then (if m = n then 0 else 2) else 1
theorem own_eq {l : List Int} (hl : l.length ≤ 1100000) (k : Nat) (hk : 1 ≤ k) (Φ : List Int → A) : spec_l01Own z k l Φ = Φ l := by
  obtain ⟨k, rfl, hk⟩ := up (K := 0) hk
  simp only [spec_l01Own, step_succ]
  rw [apI_ok z (by omega), List.nil_append]
theorem clone_eq {l : List Int} (hl : l.length ≤ 1100000) (k : Nat) (hk : 1 ≤ k) (Φ : List Int → A) : slices_Clone_Sint64_int64 z k l Φ = Φ l := by
  obtain ⟨k, rfl, hk⟩ := up (K := 0) hk
  simp only [slices_Clone_Sint64_int64, step_succ]
  rw [apI_ok z (by omega)]
theorem zero01_eq {n : Nat} (h1 : 1 ≤ n) (h2 : n ≤ 16) (k : Nat) (hk : 61 ≤ k) (Φ : Int → List Int → A) : spec_l01Zero z k n Φ = Φ n (List.replicate (cycD n) 0) := by
  obtain ⟨k, rfl, hk⟩ := up hk
  have := le12 h1 h2
  simp only [spec_l01Zero, step_succ]
  rw [phi_eq z h1 h2 _ (by omega), mkI_at z (by omega)]
/-! reduced -/
theorem red_g11 {F : List Int} {D : Nat} (hF : F.length = D + 1) (v : Int) {x : Nat} (hD : D ≤ x) {K0 : List Int → A} : ∀ (d c k : Nat) (L : List Int), c + d = D + 1 → x < L.length → L.length ≤ 1000 → d + 1 ≤ k →
    spec_l01Reduce.g11 z k (D : Int) (x : Int) v (c : Int) F L K0 = K0 (redIn F v (x - D) d c L)
  | d, c, 0, L, _, _, _, hk => absurd hk (by omega)
  | 0, c, k + 1, L, hc, hx, hl, hk => by
    rw [spec_l01Reduce.g11, if_neg (by omega)]
    rfl
  | d + 1, c, k + 1, L, hc, hx, hl, hk => by
    have e : w64 (w64 ((x : Int) - (D : Int)) + (c : Int)) = ((x - D + c : Nat) : Int) := by
      rw [w64_id (x := (x : Int) - D) (by omega) (by omega), w64_id (by omega) (by omega)]; omega
    rw [spec_l01Reduce.g11, if_pos (by omega), e, inI_at z (by omega), inI_at z (by omega), inI_at z (by omega), w64_up (by omega), red_g11 hF v hD d (c + 1) k _ (by omega) (by rw [List.length_set]; omega) (by rw [List.length_set]; omega) (by omega)]
    rfl
theorem redIn_length (F : List Int) (v : Int) (p : Nat) : ∀ (d c : Nat) (L : List Int), (redIn F v p d c L).length = L.length
  | 0, c, L => rfl
  | d + 1, c, L => by unfold redIn; rw [redIn_length F v p d, List.length_set]
theorem redOut_length (F : List Int) (D : Nat) : ∀ (x : Nat) (L : List Int), (redOut F D x L).length = L.length
  | 0, L => rfl
  | x + 1, L => by
    unfold redOut
    by_cases h : D ≤ x
    · rw [if_pos h, redOut_length F D x, redIn_length]
    · rw [if_neg h]
theorem red_g5 {F : List Int} {D : Nat} (h1 : 1 ≤ D) (hF : F.length = D + 1) {K0 : List Int → A} : ∀ (x k : Nat) (L : List Int), x ≤ L.length → L.length ≤ 1000 → x + D + 4 ≤ k →
    spec_l01Reduce.g5 z k (D : Int) ((x : Int) - 1) F L K0 = K0 (redOut F D x L)
  | x, 0, L, _, _, hk => absurd hk (by omega)
  | 0, k + 1, L, hx, hl, hk => by
    rw [spec_l01Reduce.g5, if_neg (by omega)]
    rfl
  | x + 1, k + 1, L, hx, hl, hk => by
    rw [show ((x + 1 : Nat) : Int) - 1 = (x : Int) by omega, spec_l01Reduce.g5]
    unfold redOut
    by_cases hD : D ≤ x
    · rw [if_pos (by omega), if_pos hD, inI_at z (by omega)]
      refine Eq.trans (red_g11 z hF _ hD (D + 1) 0 k L (by omega) (by omega) hl (by omega)) ?_
      rw [w64_id (by omega) (by omega), red_g5 h1 hF x k _ (by rw [redIn_length]; omega) (by rw [redIn_length]; omega) (by omega)]
      rfl
    · rw [if_neg (by omega), if_neg hD]
theorem red_g18 {R : List Int} {D : Nat} (hD : D ≤ 1000) (hR : R.length ≤ 1000) {K0 : List Int → A} : ∀ (d m k : Nat), m + d = D → d + 1 ≤ k →
    spec_l01Reduce.g18 z k (D : Int) (m : Int) R (tab D fun j => if j < m then rd R j else 0) K0 = K0 (tab D fun j => rd R j)
  | d, m, 0, _, hk => absurd hk (by omega)
  | 0, m, k + 1, hm, hk => by
    rw [spec_l01Reduce.g18, if_neg (by omega), show (tab D fun j => if j < m then rd R j else 0) = tab D fun j => rd R j from tab_congr (fun j hj => if_pos (by omega))]
  | d + 1, m, k + 1, hm, hk => by
    rw [spec_l01Reduce.g18, if_pos (by omega)]
    by_cases hr : m < R.length
    · rw [if_pos (by omega), inI_at z hr, inI_at z (by rw [tab_length]; omega), w64_up (by omega), tab_set]
      have e : (tab D fun j => if m = j then R.getD m 0 else if j < m then rd R j else 0) = tab D fun j => if j < m + 1 then rd R j else 0 := tab_congr (fun j hj => by
        by_cases c : m = j
        · subst c; rw [if_pos rfl, if_pos (by omega)]; rfl
        · rw [if_neg c]
          by_cases c2 : j < m
          · rw [if_pos c2, if_pos (by omega)]
          · rw [if_neg c2, if_neg (by omega)])
      rw [e, red_g18 hD hR d (m + 1) k (by omega) (by omega)]
    · rw [if_neg (by omega), show (tab D fun j => if j < m then rd R j else 0) = tab D fun j => rd R j from tab_congr (fun j hj => by
        by_cases c : j < m
        · rw [if_pos c]
        · rw [if_neg c, rd_out R j (by omega)])]
theorem reduce_eq {n : Nat} (h1 : 1 ≤ n) (h2 : n ≤ 16) {L : List Int} (hl : L.length ≤ 1000) (hw : Wrapped L) (k : Nat) (hk : L.length + 220 ≤ k) (Φ : Int → List Int → A) :
    spec_l01Reduce z k (n : Int) L Φ = Φ n (tab (cycD n) fun m => wrap64 (dot L (cycW n m))) := by
  obtain ⟨k, rfl, hk⟩ := up hk
  have C := cyc_facts h1 h2
  have := C.le12
  have := C.pos
  simp only [spec_l01Reduce, step_succ]
  rw [cyclo_eq z h1 h2 _ (by omega), own_eq z (by omega) _ (by omega), C.lenF, w64_id (x := ((cycD n + 1 : Nat) : Int) - 1) (by omega) (by omega), w64_id (x := (L.length : Int) - 1) (by omega) (by omega), show ((cycD n + 1 : Nat) : Int) - 1 = (cycD n : Int) by omega]
  rw [red_g5 z (by omega) C.lenF L.length k L (Nat.le_refl _) hl (by omega), zero01_eq z h1 h2 _ (by omega), tab_zero, show (tab (cycD n) fun _ => (0 : Int)) = tab (cycD n) fun j => if j < 0 then rd (redOut (cycF n) (cycD n) L.length L) j else 0 from tab_congr (fun j _ => (if_neg (by omega)).symm)]
  refine Eq.trans (red_g18 z (by omega) (by rw [redOut_length]; omega) (cycD n) 0 k (by omega) (by omega)) ?_
  rw [show (tab (cycD n) fun j => rd (redOut (cycF n) (cycD n) L.length L) j) = tab (cycD n) fun m => wrap64 (dot L (cycW n m)) from tab_congr (fun j hj => redL_rd C h1 L hw j hj)]
end
end Go.Proofs.Ytlpooghphoohcaa.F
/- Facts on the printed functions of the first layer: images, lifts, sums. -/
namespace Go.Proofs.Ytlpooghphoohcaa.F
open Go.RowKit Go.Proofs.Ytlpooghphoohcaa.R
set_option linter.unusedVariables false
set_option linter.unusedSimpArgs false
theorem mul_bd {i : Nat} {a : Int} (hi : i ≤ 100) (ha : -1000 ≤ a ∧ a ≤ 1000) : -1000000 ≤ (i : Int) * a ∧ (i : Int) * a ≤ 1000000 := by
  have := mul_le (a := (i : Int)) (b := a) (A := 1000) (B := 1000) (by omega) ha
  omega
theorem round_eq {v : Int} {n : Nat} (hv : -1000000 ≤ v ∧ v ≤ 1000000) (h1 : 1 ≤ n) (h2 : n ≤ 1000) : Int.tmod (w64 (Int.tmod (w64 v) n + n)) n = v % n := by
  obtain ⟨a0, a1⟩ := tmod_lt (a := v) (n := n) (by omega)
  rw [w64_id (x := v) (by omega) (by omega), w64_id (by omega) (by omega), Int.tmod_eq_emod_of_nonneg (by omega), Int.add_emod_right, tmod_emod]
theorem mod_nat (v : Int) {n : Nat} (h1 : 1 ≤ n) : v % n = (((v % n).toNat : Nat) : Int) ∧ (v % n).toNat < n := by
  have q0 := Int.emod_nonneg v (b := n) (by omega)
  have q1 := Int.emod_lt_of_pos v (b := n) (by omega)
  exact ⟨by omega, by omega⟩
section
variable {A : Type} (z : A)
theorem with178_in {row : List Int} (hr : row.length ≤ 1000) (v : Int) {K0 : List Int → A} : ∀ (d c k : Nat) (o : List Int), c + d = row.length → o.length = row.length → d + 1 ≤ k →
    impl_field_with_c143.g10 z k v row (row.length : Int) (c : Int) o K0 = K0 (addIn row v 0 d c o)
  | d, c, 0, o, _, _, hk => absurd hk (by omega)
  | 0, c, k + 1, o, hc, ho, hk => by
    rw [impl_field_with_c143.g10, if_neg (by omega)]
    rfl
  | d + 1, c, k + 1, o, hc, ho, hk => by
    rw [impl_field_with_c143.g10, if_pos (by omega), inI_at z (by omega), inI_at z (by omega), inI_at z (by omega), w64_up (by omega), with178_in hr v d (c + 1) k _ (by omega) (by rw [List.length_set]; exact ho) (by omega)]
    rw [show addIn row v 0 (d + 1) c o = addIn row v 0 d (c + 1) (o.set c (w64 (o.getD c 0 + w64 (v * row.getD c 0)))) by rw [addIn, Nat.zero_add]; rfl]
theorem with178_g {n : Nat} (h1 : 1 ≤ n) (h2 : n ≤ 16) {x : List Int} (hx : x.length ≤ 100) {a : Int} {q : Nat → Nat}
    (hq : ∀ i : Nat, i < x.length → q i < n ∧ ∀ k (K0 : Int → A), (impl_field_image_1 z (k + 1) (i : Int) a fun v3 => impl_around z (k + 1) v3 (n : Int) K0) = K0 (q i : Int)) {K0 : List Int → A} : ∀ (d i k : Nat) (o : List Int), i + d = x.length → o.length = cycD n → d + 20 ≤ k →
    impl_field_with_c143.g4 z k (n : Int) (cycP n) a x (x.length : Int) (i : Int) o K0 = K0 (imIn n x q d i o)
  | d, i, 0, o, _, _, hk => absurd hk (by omega)
  | 0, i, k + 1, o, hi, ho, hk => by
    rw [impl_field_with_c143.g4, if_neg (by omega)]
    rfl
  | d + 1, i, k + 1, o, hi, ho, hk => by
    obtain ⟨q1, q2⟩ := hq i (by omega)
    have C := cyc_facts h1 h2
    obtain ⟨r1, r2, r3⟩ := cycRow_facts C h1 q1
    have := C.le12
    obtain ⟨j, rfl, hj⟩ := up (show d + 19 + 1 ≤ k by omega)
    rw [impl_field_with_c143.g4, if_pos (by omega), inI_at z (by omega), q2, inI_at z (by rw [C.lenP]; omega), w64_up (by omega)]
    refine Eq.trans (with178_in z (row := cycRow n (q i)) (by omega) _ (cycRow n (q i)).length 0 (j + 1) o (by omega) (by omega) (by omega)) ?_
    rw [r1]
    have hl := (addIn_length (cycRow n (q i)) (rd x i) 0 (cycD n) 0 o).trans ho
    exact with178_g h1 h2 hx hq d (i + 1) (j + 1) _ (by omega) hl (by omega)
theorem image_eq {n : Nat} (h1 : 1 ≤ n) (h2 : n ≤ 16) {x : List Int} (hx : x.length ≤ 100) {a : Int} (ha : -1000 ≤ a ∧ a ≤ 1000) (k : Nat) (hk : 130 ≤ k) (Φ : List Int → A) :
    impl_field_image z k (n : Int) (cycD n : Int) (cycP n) x a Φ = Φ (imT n x a) := by
  obtain ⟨k, rfl⟩ := le_ex (show 2 ≤ k by omega)
  have := le12 h1 h2
  simp only [impl_field_image, impl_field_with_c143, step_succ]
  rw [mkI_at z (by omega)]
  refine Eq.trans (with178_g z h1 h2 hx (q := fun i => (((i : Int) * a) % n).toNat) (fun i hi => ⟨(mod_nat _ h1).2, fun k K0 => ?_⟩) x.length 0 k _ (by omega) (by simp) (by omega)) ?_
  · simp only [impl_field_image_1, step_succ]
    have hm := mul_bd (i := i) (by omega) ha
    rw [Int.mul_comm a, w64_id (by omega) (by omega), around_eq z _ (by omega) (by omega)]
    exact congrArg _ (mod_nat _ h1).1
  · rw [imIn_tab (cyc_facts h1 h2) h1 x _ fun j hj => (mod_nat _ h1).2]
    rfl
end
end Go.Proofs.Ytlpooghphoohcaa.F
/- Facts on the printed functions of the first layer: products, with sums that may be great. -/
namespace Go.Proofs.Ytlpooghphoohcaa.F
open Go.RowKit Go.Proofs.Ytlpooghphoohcaa.R
set_option linter.unusedVariables false
set_option linter.unusedSimpArgs false
/-- The sums stand at T, of at most c numbers each. -/
def Sums (D : Nat) (o : List (Int × Nat)) (T : Nat → Int) (c : Nat) : Prop := o.length = D ∧ ∀ j, j < D → (o.getD j (0, 0)).1 = w64 (T j) ∧ Near (o.getD j (0, 0)).2 (T j) c ∧ (T j).natAbs ≤ 16000000000000000000 * c
theorem Near.more {b : Nat} {T : Int} {c c' : Nat} (h : Near b T c) (e : c ≤ c') : Near b T c' := by
  obtain ⟨n, h1, h2⟩ := h
  exact ⟨n, h1, Nat.le_trans h2 (Nat.mul_le_mul_right _ e)⟩
theorem Sums.more {D : Nat} {o : List (Int × Nat)} {T : Nat → Int} {c c' : Nat} (h : Sums D o T c) (e : c ≤ c') : Sums D o T c' :=
  ⟨h.1, fun j hj => by obtain ⟨h1, h2, h3⟩ := h.2 j hj; exact ⟨h1, h2.more e, Nat.le_trans h3 (Nat.mul_le_mul_left _ e)⟩⟩
theorem Sums.congr {D : Nat} {o : List (Int × Nat)} {T S : Nat → Int} {c : Nat} (h : Sums D o T c) (e : ∀ j, j < D → T j = S j) : Sums D o S c :=
  ⟨h.1, fun j hj => by rw [← e j hj]; exact h.2 j hj⟩
theorem sums_zero (D : Nat) : Sums D (List.replicate D ((0 : Int), (0 : Nat))) (fun _ => 0) 0 :=
  ⟨by simp, fun j hj => by
    have : (List.replicate D ((0 : Int), (0 : Nat))).getD j (0, 0) = (0, 0) := by simp [List.getD_eq_getElem?_getD, hj]
    rw [this]
    exact ⟨rfl, near_zero, by simp⟩⟩
theorem w64_cg (a b : Int) : w64 (w64 a + w64 b) = w64 (a + b) := ((Cg.wrap a).add (Cg.wrap b)).eq
/-- One number more at one place. -/
theorem sumAdd {D : Nat} {o : List (Int × Nat)} {T : Nat → Int} {c : Nat} (h : Sums D o T c) (hc : c ≤ 200000) {m : Nat} (hm : m < D) {X Y : Nat} (hXY : X ≤ 16000000000 ∧ Y ≤ 16000000000 ∧ X * Y ≤ 16000000000000000000) {x y : Int} (hx : x.natAbs ≤ X) (hy : y.natAbs ≤ Y) :
    ∃ s, (∀ (A : Type) (z : A) (k : Nat) (Φ : Int → Nat → A), impl_sum_add z (k + 1) (o.getD m (0, 0)).1 (o.getD m (0, 0)).2 x y Φ = Φ (w64 (T m + x * y)) s) ∧
      Sums D (o.set m (w64 (T m + x * y), s)) (fun j => if m = j then T j + x * y else T j) (c + 1) := by
  obtain ⟨h1, h2, h3⟩ := h.2 m hm
  have hxy : (x * y).natAbs ≤ 16000000000000000000 := by
    rw [Int.natAbs_mul]
    exact Nat.le_trans (Nat.mul_le_mul hx hy) hXY.2.2
  obtain ⟨p, s, e1, e2, e3⟩ := near_add h2 (x := x) (y := y) (by omega) (by omega) (by omega) (by omega) (by omega)
  refine ⟨s, fun A z k Φ => ?_, by rw [List.length_set]; exact h.1, fun j hj => ?_⟩
  · simp only [impl_sum_add, step_succ]
    rw [e1]
    simp only [optN]
    rw [e2]
    simp only []
    rw [h1, w64_cg]
  · by_cases e : m = j
    · subst e
      have : (o.set m (w64 (T m + x * y), s)).getD m (0, 0) = (w64 (T m + x * y), s) := by
        simp [List.getD_eq_getElem?_getD, List.getElem?_set, h.1, hm]
      rw [this]
      dsimp only
      rw [if_pos rfl]
      exact ⟨rfl, e3, by omega⟩
    · have : (o.set m (w64 (T m + x * y), s)).getD j (0, 0) = o.getD j (0, 0) := by
        simp [List.getD_eq_getElem?_getD, List.getElem?_set, e]
      rw [this]
      dsimp only
      rw [if_neg e]
      obtain ⟨g1, g2, g3⟩ := h.2 j hj
      exact ⟨g1, g2.more (by omega), by omega⟩
/-- A row of a power, times a product. -/
theorem prod15 {D : Nat} {row : List Int} (hr : row.length = D) (hD : D ≤ 12) (hrow : ∀ j : Nat, j < D → -1 ≤ rd row j ∧ rd row j ≤ 1) {X Y : Nat} (hXY : X ≤ 16000000000 ∧ Y ≤ 16000000000 ∧ X * Y ≤ 16000000000000000000) {x y : Int} (hx : x.natAbs ≤ X) (hy : y.natAbs ≤ Y) :
    ∀ (d m : Nat) (o : List (Int × Nat)) (T : Nat → Int) (c : Nat), m + d = D → c + d ≤ 200000 → Sums D o T c →
    ∃ o', (∀ (A : Type) (z : A) (k : Nat) (K0 : List (Int × Nat) → A), d + 3 ≤ k → impl_field_product.g15 z k x y row (row.length : Int) (m : Int) o K0 = K0 o') ∧ Sums D o' (fun j => if m ≤ j then T j + rd row j * x * y else T j) (c + d)
  | 0, m, o, T, c, hm, hc, hs => by
    refine ⟨o, fun A z k K0 hk => ?_, hs.congr fun j hj => by rw [if_neg (by omega)]⟩
    obtain ⟨k, rfl, _⟩ := up (show 2 + 1 ≤ k by omega)
    rw [impl_field_product.g15, if_neg (by omega)]
  | d + 1, m, o, T, c, hm, hc, hs => by
    have hmD : m < D := by omega
    have hro := hrow m hmD
    by_cases h0 : rd row m = 0
    · obtain ⟨o', h1, h2⟩ := prod15 hr hD hrow hXY hx hy d (m + 1) o T c (by omega) (by omega) hs
      refine ⟨o', fun A z k K0 hk => ?_, (h2.more (by omega)).congr fun j hj => ?_⟩
      · obtain ⟨k, rfl, _⟩ := up (show d + 3 + 1 ≤ k by omega)
        have h0' : row.getD m 0 = 0 := h0
        rw [impl_field_product.g15, if_pos (by omega), inI_at z (by omega), if_neg (by simpa using h0'), w64_up (by omega)]
        exact h1 A z k K0 (by omega)
      · by_cases c1 : m + 1 ≤ j
        · rw [if_pos c1, if_pos (by omega)]
        · rw [if_neg c1]
          by_cases c2 : m ≤ j
          · have : j = m := by omega
            subst this
            rw [if_pos c2, h0, Int.zero_mul, Int.zero_mul, Int.add_zero]
          · rw [if_neg c2]
    · have hnx : (rd row m * x).natAbs ≤ X := by
        rcases (show rd row m = 1 ∨ rd row m = -1 by omega) with e | e <;> rw [e] <;> omega
      obtain ⟨s, e1, e2⟩ := sumAdd hs (by omega) hmD hXY hnx hy
      obtain ⟨o', h1, h2⟩ := prod15 hr hD hrow hXY hx hy d (m + 1) _ _ (c + 1) (by omega) (by omega) e2
      refine ⟨o', fun A z k K0 hk => ?_, (h2.more (by omega)).congr fun j hj => ?_⟩
      · obtain ⟨k, rfl, _⟩ := up (show d + 3 + 1 ≤ k by omega)
        obtain ⟨i, rfl, _⟩ := up (show d + 2 + 1 ≤ k by omega)
        have h0' : row.getD m 0 ≠ 0 := h0
        have hw : w64 (row.getD m 0 * x) = rd row m * x := w64_id (x := rd row m * x) (by omega) (by omega)
        rw [impl_field_product.g15, if_pos (by omega), inI_at z (by omega), if_pos h0', inI_at z (by rw [hs.1]; omega), hw, e1, w64_up (by omega)]
        exact h1 A z (i + 1) K0 (by omega)
      · by_cases c1 : m + 1 ≤ j
        · rw [if_pos c1, if_neg (show ¬ m = j by omega), if_pos (show m ≤ j by omega)]
        · rw [if_neg c1]
          by_cases c2 : m ≤ j
          · have : j = m := by omega
            subst this
            rw [if_pos rfl, if_pos c2]
          · rw [if_neg (show ¬ m = j by omega), if_neg c2]
theorem prod7 {n : Nat} (h1 : 1 ≤ n) (h2 : n ≤ 16) {i : Nat} (hi : i ≤ 1000) {X Y : Nat} (hXY : X ≤ 16000000000 ∧ Y ≤ 16000000000 ∧ X * Y ≤ 16000000000000000000) {x : Int} (hx : x.natAbs ≤ X) {y : List Int} (hy : ∀ q : Nat, q < y.length → (rd y q).natAbs ≤ Y) (hyl : y.length ≤ 1000) :
    ∀ (d m : Nat) (o : List (Int × Nat)) (T : Nat → Int) (c : Nat), m + d = y.length → c + 12 * d ≤ 200000 → Sums (cycD n) o T c →
    ∃ o', (∀ (A : Type) (z : A) (k : Nat) (K0 : List (Int × Nat) → A), d + 20 ≤ k → impl_field_product.g7 z k (n : Int) (cycP n) (i : Int) x y (y.length : Int) (m : Int) o K0 = K0 o') ∧
      Sums (cycD n) o' (fun j => T j + x * sumF m d (fun q => rd y q * cycW n j (i + q))) (c + 12 * d)
  | 0, m, o, T, c, hm, hc, hs => by
    refine ⟨o, fun A z k K0 hk => ?_, hs.congr fun j hj => by simp [sumF]⟩
    obtain ⟨k, rfl, _⟩ := up (show 19 + 1 ≤ k by omega)
    rw [impl_field_product.g7, if_neg (by omega)]
  | d + 1, m, o, T, c, hm, hc, hs => by
    have hml : m < y.length := by omega
    have C := cyc_facts h1 h2
    have hlt : (i + m) % n < n := Nat.mod_lt _ (by omega)
    obtain ⟨r1, r2, r3⟩ := cycRow_facts C h1 hlt
    have skip : x * rd y m = 0 → (∀ (A : Type) (z : A) (k : Nat) (K0 : List (Int × Nat) → A), d + 20 + 1 ≤ k + 1 → impl_field_product.g7 z (k + 1) (n : Int) (cycP n) (i : Int) x y (y.length : Int) (m : Int) o K0 = impl_field_product.g7 z k (n : Int) (cycP n) (i : Int) x y (y.length : Int) ((m + 1 : Nat) : Int) o K0) →
        ∃ o', (∀ (A : Type) (z : A) (k : Nat) (K0 : List (Int × Nat) → A), d + 1 + 20 ≤ k → impl_field_product.g7 z k (n : Int) (cycP n) (i : Int) x y (y.length : Int) (m : Int) o K0 = K0 o') ∧
          Sums (cycD n) o' (fun j => T j + x * sumF m (d + 1) (fun q => rd y q * cycW n j (i + q))) (c + 12 * (d + 1)) := by
      intro h0 hstep
      obtain ⟨o', g1, g2⟩ := prod7 h1 h2 hi hXY hx hy hyl d (m + 1) o T c (by omega) (by omega) hs
      refine ⟨o', fun A z k K0 hk => ?_, (g2.more (by omega)).congr fun j hj => ?_⟩
      · obtain ⟨k, rfl, _⟩ := up (show d + 20 + 1 ≤ k by omega)
        rw [hstep A z k K0 (by omega)]
        exact g1 A z k K0 (by omega)
      · rw [sumF, Int.mul_add, ← Int.mul_assoc x, h0, Int.zero_mul, Int.zero_add]
    by_cases hx0 : x = 0
    · refine skip (by rw [hx0, Int.zero_mul]) fun A z k K0 hk => ?_
      rw [impl_field_product.g7, if_pos (by omega), inI_at z hml, if_pos hx0, w64_up (by omega)]
    by_cases hy0 : rd y m = 0
    · refine skip (by rw [hy0, Int.mul_zero]) fun A z k K0 hk => ?_
      have hy0' : y.getD m 0 = 0 := hy0
      rw [impl_field_product.g7, if_pos (by omega), inI_at z hml, if_neg hx0, if_pos hy0', w64_up (by omega)]
    obtain ⟨o1, e1, e2⟩ := prod15 (row := cycRow n ((i + m) % n)) r1 C.le12 (fun j hj => by
      rw [rd_nat _ _ (by omega)]
      exact r2 _ (List.getElem_mem _)) hXY hx (hy m hml) (cycD n) 0 o T c (by omega) (by have := C.le12; omega) hs
    obtain ⟨o', g1, g2⟩ := prod7 h1 h2 hi hXY hx hy hyl d (m + 1) o1 _ (c + 12) (by omega) (by omega) (e2.more (by have := C.le12; omega))
    refine ⟨o', fun A z k K0 hk => ?_, (g2.more (by omega)).congr fun j hj => ?_⟩
    · obtain ⟨k, rfl, _⟩ := up (show d + 20 + 1 ≤ k by omega)
      have hy0' : ¬ y.getD m 0 = 0 := hy0
      have hq : Int.tmod (w64 ((i : Int) + (m : Int))) (n : Int) = (((i + m) % n : Nat) : Int) := by
        rw [w64_id (by omega) (by omega), Int.tmod_eq_emod_of_nonneg (by omega), Int.natCast_emod, Int.natCast_add]
      rw [impl_field_product.g7, if_pos (by omega), inI_at z hml, if_neg hx0, if_neg hy0', gd_ok z (by omega), hq, inI_at z (by rw [C.lenP]; exact hlt), w64_up (by omega)]
      refine Eq.trans (e1 A z k _ (by have := C.le12; omega)) ?_
      exact g1 A z k K0 (by omega)
    · rw [if_pos (Nat.zero_le _), sumF, r3 j, cycW_mod, Int.mul_add, Int.add_assoc]
      congr 2
      rw [Int.mul_comm (cycW n j (i + m)) x, Int.mul_assoc, Int.mul_comm (cycW n j (i + m))]
theorem prod1 {n : Nat} (h1 : 1 ≤ n) (h2 : n ≤ 16) {X Y : Nat} (hXY : X ≤ 16000000000 ∧ Y ≤ 16000000000 ∧ X * Y ≤ 16000000000000000000) {x y : List Int} (hx : ∀ q : Nat, q < x.length → (rd x q).natAbs ≤ X) (hxl : x.length ≤ 100) (hy : ∀ q : Nat, q < y.length → (rd y q).natAbs ≤ Y) (hyl : y.length ≤ 100) :
    ∀ (d i : Nat) (o : List (Int × Nat)) (T : Nat → Int) (c : Nat), i + d = x.length → c + 1200 * d ≤ 200000 → Sums (cycD n) o T c →
    ∃ o', (∀ (A : Type) (z : A) (k : Nat) (K0 : List (Int × Nat) → A), d + 150 ≤ k → impl_field_product.g1 z k (n : Int) (cycP n) y x (x.length : Int) (i : Int) o K0 = K0 o') ∧
      Sums (cycD n) o' (fun j => T j + sumF i d (fun p => rd x p * sumF 0 y.length (fun q => rd y q * cycW n j (p + q)))) (c + 1200 * d)
  | 0, i, o, T, c, hm, hc, hs => by
    refine ⟨o, fun A z k K0 hk => ?_, hs.congr fun j hj => by simp [sumF]⟩
    obtain ⟨k, rfl, _⟩ := up (show 149 + 1 ≤ k by omega)
    rw [impl_field_product.g1, if_neg (by omega)]
  | d + 1, i, o, T, c, hm, hc, hs => by
    have hil : i < x.length := by omega
    obtain ⟨o1, e1, e2⟩ := prod7 h1 h2 (i := i) (by omega) hXY (hx i hil) hy (by omega) y.length 0 o T c (by omega) (by omega) hs
    obtain ⟨o', g1, g2⟩ := prod1 h1 h2 hXY hx hxl hy hyl d (i + 1) o1 _ (c + 1200) (by omega) (by omega) (e2.more (by omega))
    refine ⟨o', fun A z k K0 hk => ?_, (g2.more (by omega)).congr fun j hj => ?_⟩
    · obtain ⟨k, rfl, _⟩ := up (show d + 150 + 1 ≤ k by omega)
      rw [impl_field_product.g1, if_pos (by omega), inI_at z hil, w64_up (by omega)]
      refine Eq.trans (e1 A z k _ (by omega)) ?_
      exact g1 A z k K0 (by omega)
    · rw [sumF, Int.add_assoc]
/-- What sums are told as. -/
theorem values4 {D : Nat} {o : List (Int × Nat)} {T : Nat → Int} {c : Nat} (h : Sums D o T c) (hc : c ≤ 400000) (hD : D ≤ 1000) {A : Type} (z : A) {K0 : Bool → List Int → A} : ∀ (d i k : Nat) (ok : Bool) (l : List Int), i + d = D → l.length = i → d + 4 ≤ k →
    impl_values.g4 z k o ok (o.length : Int) (i : Int) l K0 = K0 (ok && ((List.range' i d).all fun j => fitsB (T j))) (l ++ (List.range' i d).map fun j => w64 (T j))
  | d, i, 0, ok, l, _, _, hk => absurd hk (by omega)
  | 0, i, k + 1, ok, l, hi, hl, hk => by
    rw [impl_values.g4, if_neg (by rw [h.1]; omega)]
    simp
  | d + 1, i, k + 1, ok, l, hi, hl, hk => by
    obtain ⟨k, rfl, _⟩ := up (show d + 3 + 1 ≤ k by omega)
    obtain ⟨k, rfl, _⟩ := up (show d + 2 + 1 ≤ k by omega)
    have hol := h.1
    obtain ⟨g1, g2, g3⟩ := h.2 i (by omega)
    have hf := near_fits g2 hc
    have hv : ∀ Ψ : Int → Bool → A, impl_sum_value z (k + 1 + 1) (o.getD i (0, 0)).1 (o.getD i (0, 0)).2 Ψ = Ψ (w64 (T i)) (fitsB (T i)) := by
      intro Ψ
      simp only [impl_sum_value, step_succ]
      rw [within_eq, g1, ← hf, w64_wrap]
      cases decide (-1000000000 ≤ wrap64 (T i) ∧ wrap64 (T i) ≤ 1000000000)
      · rfl
      · cases (FloatKind.format .f64).order (o.getD i (0, 0)).2 4876203697187506176 == some .lt <;> rfl
    rw [impl_values.g4, if_pos (by rw [hol]; omega), inI_at z (by omega), hv, apI_ok z (by omega), w64_up (by omega), List.range'_succ, List.all_cons, List.map_cons]
    cases ok with
    | true =>
      rw [cond_true, values4 h hc hD z d (i + 1) (k + 1 + 1) _ _ (by omega) (by simp [hl]) (by omega)]
      simp
    | false =>
      rw [cond_false, values4 h hc hD z d (i + 1) (k + 1 + 1) _ _ (by omega) (by simp [hl]) (by omega)]
      simp
theorem fits_small (T : Int) : fitsB T = decide (-1000000000 ≤ T ∧ T ≤ 1000000000) := by
  unfold fitsB
  rw [Bool.eq_iff_iff, decide_eq_true_eq, decide_eq_true_eq]
  omega
theorem times_gen {n : Nat} (h1 : 1 ≤ n) (h2 : n ≤ 16) {X Y : Nat} (hXY : X ≤ 16000000000 ∧ Y ≤ 16000000000 ∧ X * Y ≤ 16000000000000000000) {x y : List Int} (hx : within X x) (hxl : x.length ≤ 100) (hy : within Y y) (hyl : y.length ≤ 100) {A : Type} (z : A) (k : Nat) (hk : 260 ≤ k) (Φ : List Int → Bool → A) :
    impl_field_times z k (n : Int) (cycD n : Int) (cycP n) x y Φ = Φ (tab (cycD n) fun m => w64 (bil n x y m)) (okB n x y) := by
  have C := cyc_facts h1 h2
  have hD := C.le12
  obtain ⟨o', g1, g2⟩ := prod1 h1 h2 hXY (x := x) (y := y) (fun q hq => by have := hx q hq; omega) hxl (fun q hq => by have := hy q hq; omega) hyl x.length 0 _ _ 0 (by omega) (by omega) (sums_zero (cycD n))
  obtain ⟨k, rfl⟩ := le_ex (show 2 ≤ k by omega)
  simp only [impl_field_times, impl_field_product, impl_values, step_succ]
  rw [mkI_at z (by omega)]
  refine Eq.trans (g1 A z (k) _ (by omega)) ?_
  refine Eq.trans (values4 g2 (by omega) (by omega) z (cycD n) 0 k true [] (by omega) rfl (by omega)) ?_
  rw [Bool.true_and, List.nil_append, ← List.range_eq_range']
  have e1 : (List.range (cycD n)).map (fun j => w64 (0 + sumF 0 x.length (fun p => rd x p * sumF 0 y.length (fun q => rd y q * cycW n j (p + q))))) = tab (cycD n) fun m => w64 (bil n x y m) :=
    List.map_congr_left fun j _ => by rw [Int.zero_add]; rfl
  have e2 : ((List.range (cycD n)).all fun j => fitsB (0 + sumF 0 x.length (fun p => rd x p * sumF 0 y.length (fun q => rd y q * cycW n j (p + q))))) = okB n x y := by
    rw [Bool.eq_iff_iff]
    unfold okB
    rw [smallL_tab, List.all_eq_true]
    constructor
    · intro h m hm
      have := h m (List.mem_range.2 hm)
      rw [fits_small, Int.zero_add, decide_eq_true_eq] at this
      exact this
    · intro h m hm
      rw [fits_small, Int.zero_add, decide_eq_true_eq]
      exact h m (List.mem_range.1 hm)
  rw [← e1, ← e2]
theorem times_eq {n : Nat} (h1 : 1 ≤ n) (h2 : n ≤ 16) {x y : List Int} (hx : within 1000000000 x) (hxl : x.length ≤ 100) (hy : within 16000000000 y) (hyl : y.length ≤ 100) {A : Type} (z : A) (k : Nat) (hk : 260 ≤ k) (Φ : List Int → Bool → A) :
    impl_field_times z k (n : Int) (cycD n : Int) (cycP n) x y Φ = Φ (tab (cycD n) fun m => w64 (bil n x y m)) (okB n x y) :=
  times_gen h1 h2 (X := 1000000000) (Y := 16000000000) (by decide) hx hxl hy hyl z k hk Φ
theorem times_eq2 {n : Nat} (h1 : 1 ≤ n) (h2 : n ≤ 16) {x y : List Int} (hx : within 16000000000 x) (hxl : x.length ≤ 100) (hy : within 1000000000 y) (hyl : y.length ≤ 100) {A : Type} (z : A) (k : Nat) (hk : 260 ≤ k) (Φ : List Int → Bool → A) :
    impl_field_times z k (n : Int) (cycD n : Int) (cycP n) x y Φ = Φ (tab (cycD n) fun m => w64 (bil n x y m)) (okB n x y) :=
  times_gen h1 h2 (X := 16000000000) (Y := 1000000000) (by decide) hx hxl hy hyl z k hk Φ
end Go.Proofs.Ytlpooghphoohcaa.F
/- Facts on the functions of the first layer, whole: images, conjugates, products, sums. -/
namespace Go.Proofs.Ytlpooghphoohcaa.F
open Go.RowKit Go.Proofs.Ytlpooghphoohcaa.R
set_option linter.unusedVariables false
set_option linter.unusedSimpArgs false
def told3 (n : Int) (l : List Int) : Int × List Int × Int := if smallL l = true then (n, l, 0) else (0, [], 3)
def gal3 (n : Int) (x : List Int) (a : Int) : Int × List Int × Int := if isC n x = true then (if (1 ≤ a ∧ a ≤ n) ∧ Int.gcd a n = 1 then told3 n (imT n.toNat x a) else (0, [], 2)) else (0, [], 1)
def bar3 (n : Int) (x : List Int) : Int × List Int × Int := if isC n x = true then told3 n (imT n.toNat x (-1)) else (0, [], 1)
def mul3 (m : Int) (x : List Int) (n : Int) (y : List Int) : Int × List Int × Int := if codeC m x n y ≠ 0 then (0, [], codeC m x n y) else match mulO m.toNat x y with
  | some l => (m, l, 0)
  | none => (0, [], 3)
def plusL (x y : List Int) (k : Int) : List Int := addIn y k 0 y.length 0 x
def add3 (m : Int) (x : List Int) (n : Int) (y : List Int) (k : Int) : Int × List Int × Int := if codeC m x n y ≠ 0 then (0, [], codeC m x n y) else if -1000 ≤ k ∧ k ≤ 1000 then told3 m (plusL x y k) else (0, [], 2)
def real2 (n : Int) (x : List Int) : Bool × Int := if isC n x = true then (decide (imT n.toNat x (-1) = x), 0) else (false, 1)
theorem imT_len (n : Nat) (x : List Int) (a : Int) : (imT n x a).length = cycD n := tab_length _ _
theorem isC_x {n : Int} {x : List Int} (h : isC n x = true) : ∃ m : Nat, n = m ∧ 1 ≤ m ∧ m ≤ 16 ∧ x.length = cycD m ∧ x.length ≤ 12 ∧ GoodZ m x := by
  obtain ⟨⟨m, h1, h2, h3, h4⟩, h5⟩ := isC_len h
  have := le12 h2 h3
  exact ⟨m, h1, h2, h3, h4, by omega, h4, smallL_within.1 h5⟩
theorem codeC_zero {m n : Int} {x y : List Int} (h : codeC m x n y = 0) : isC m x = true ∧ isC n y = true ∧ m = n := by
  unfold codeC at h
  cases h1 : isC m x <;> cases h2 : isC n y <;> simp [h1, h2] at h
  exact ⟨rfl, rfl, h⟩
section
variable {A : Type} (z : A)
end
end Go.Proofs.Ytlpooghphoohcaa.F
/- Facts on the functions of the first layer, whole: lifts, and fields within fields. -/
namespace Go.Proofs.Ytlpooghphoohcaa.F
open Go.RowKit Go.Proofs.Ytlpooghphoohcaa.R
set_option linter.unusedVariables false
set_option linter.unusedSimpArgs false
def liftT (m s : Nat) (x : List Int) : List Int := tab (cycD m) fun j => w64 (galQ m x (fun i => i * s % m) j)
def lift3 (n : Int) (x : List Int) (m : Int) : Int × List Int × Int := if isC n x = true then (if 1 ≤ m ∧ m ≤ 16 then (if m.toNat % n.toNat = 0 then told3 m (liftT m.toNat (m.toNat / n.toNat) x) else (0, [], 2)) else (0, [], 2)) else (0, [], 1)
def liftIn (s : Nat) (x : List Int) : Nat → Nat → List Int → List Int
  | 0, _, L => L
  | d + 1, i, L => liftIn s x d (i + 1) (L.set (i * s) (rd x i))
theorem liftIn_length (s : Nat) (x : List Int) : ∀ (d i : Nat) (L : List Int), (liftIn s x d i L).length = L.length
  | 0, i, L => rfl
  | d + 1, i, L => by unfold liftIn; rw [liftIn_length s x d, List.length_set]
theorem liftIn_facts {s : Nat} (hs : 1 ≤ s) (x : List Int) (hx : ∀ q : Nat, q < x.length → (rd x q).natAbs ≤ 1000000000) : ∀ (d i : Nat) (L : List Int), i + d = x.length → x.length * s ≤ L.length → (∀ j, i ≤ j → j < x.length → rd L (j * s : Nat) = 0) → Wrapped L →
    Wrapped (liftIn s x d i L) ∧ ∀ w : Nat → Int, dot (liftIn s x d i L) w = dot L w + sumF i d (fun p => rd x p * w (p * s))
  | 0, i, L, hi, hl, hz, hw => ⟨hw, fun w => by simp [liftIn, sumF]⟩
  | d + 1, i, L, hi, hl, hz, hw => by
    have hq : i * s < L.length := Nat.lt_of_lt_of_le (Nat.mul_lt_mul_of_pos_right (show i < x.length by omega) hs) hl
    have hxi := hx i (by omega)
    have hv : rd x i = wrap64 (rd x i) := (wrap_id (by omega) (by omega)).symm
    obtain ⟨g1, g2⟩ := liftIn_facts hs x hx d (i + 1) (L.set (i * s) (rd x i)) (by omega) (by rw [List.length_set]; exact hl) (fun j h1 h2 => by
      rw [rd_set _ _ _ _ (Nat.lt_of_lt_of_le (Nat.mul_lt_mul_of_pos_right h2 hs) hl), if_neg (fun e => by have := Nat.eq_of_mul_eq_mul_right hs e; omega)]
      exact hz j (by omega) h2) (by rw [hv]; exact hw.set _ _)
    refine ⟨g1, fun w => ?_⟩
    show dot (liftIn s x d (i + 1) (L.set (i * s) (rd x i))) w = _
    rw [g2 w, dot_set _ _ _ _ hq, hz i (Nat.le_refl _) (by omega), sumF, Int.sub_zero, Int.add_assoc]
section
variable {A : Type} (z : A)
theorem lift_mod {m n : Nat} (h1 : 1 ≤ n) (hm : m ≤ 16) (hd : m % n = 0) {i : Nat} (hi : i < n) : i * (m / n) ≤ m ∧ (1 ≤ m → 1 ≤ m / n) := by
  have e := Nat.div_add_mod m n
  rw [hd, Nat.add_zero] at e
  refine ⟨?_, fun h => ?_⟩
  · have := Nat.mul_le_mul_right (m / n) (Nat.le_of_lt hi)
    omega
  · rcases Nat.eq_zero_or_pos (m / n) with h0 | h0
    · rw [h0] at e; omega
    · exact h0
theorem tdiv_nat (m n : Nat) : Int.tdiv (m : Int) (n : Int) = ((m / n : Nat) : Int) := by rw [Int.tdiv_eq_ediv_of_nonneg (by omega)]; rfl
theorem tmod_nat (m n : Nat) : Int.tmod (m : Int) (n : Int) = ((m % n : Nat) : Int) := by rw [Int.tmod_eq_emod_of_nonneg (by omega)]; rfl
end
end Go.Proofs.Ytlpooghphoohcaa.F
/- Facts on the functions of the first layer, whole: what lies in a field. -/
namespace Go.Proofs.Ytlpooghphoohcaa.F
open Go.RowKit Go.Proofs.Ytlpooghphoohcaa.R
set_option linter.unusedVariables false
set_option linter.unusedSimpArgs false
def allF (n m : Nat) (x : List Int) : Nat → Nat → Bool
  | 0, _ => true
  | d + 1, a => if (a - 1) % m = 0 ∧ Nat.gcd a n = 1 then (if imT n x (a : Int) = x then allF n m x d (a + 1) else false) else allF n m x d (a + 1)
def inF (n : Int) (x : List Int) (m : Int) : Bool × Int := if isC n x = true then (if 1 ≤ m ∧ n.toNat % m.toNat = 0 then (allF n.toNat m.toNat x n.toNat 1, 0) else (false, 2)) else (false, 1)
theorem one_mod {a m : Nat} (ha : 1 ≤ a) : (a - 1) % m = 0 ↔ a % m = 1 % m := by
  obtain ⟨b, rfl⟩ : ∃ b, a = b + 1 := ⟨a - 1, by omega⟩
  rw [Nat.add_sub_cancel]
  constructor
  · intro h; rw [Nat.add_mod, h, Nat.zero_add, Nat.mod_mod]
  · intro h
    have h1 : ((b + 1) - 1) % m = 0 := Nat.sub_mod_eq_zero_of_mod_eq h
    simpa using h1
section
variable {A : Type} (z : A)
end
end Go.Proofs.Ytlpooghphoohcaa.F
/- Facts on the functions of the first layer, whole: what is drawn. -/
namespace Go.Proofs.Ytlpooghphoohcaa.F
open Go.RowKit Go.Proofs.Ytlpooghphoohcaa.R
set_option linter.unusedVariables false
set_option linter.unusedSimpArgs false
def Src (c : List Int) (i : Int) : Prop := c.length ≤ 4096 ∧ (∀ x ∈ c, 0 ≤ x ∧ x ≤ 255) ∧ 0 ≤ i ∧ i ≤ (c.length : Int)
theorem mask_bd (y : Int) : 0 ≤ wu64 ((BitVec.ofInt 64 y &&& BitVec.ofInt 64 1073741823).toNat : Int) ∧ wu64 ((BitVec.ofInt 64 y &&& BitVec.ofInt 64 1073741823).toNat : Int) ≤ 1073741823 := by
  have h : (BitVec.ofInt 64 y &&& BitVec.ofInt 64 1073741823).toNat ≤ 1073741823 := by
    rw [BitVec.toNat_and]
    exact Nat.le_trans Nat.and_le_right (by decide)
  generalize (BitVec.ofInt 64 y &&& BitVec.ofInt 64 1073741823).toNat = q at h
  rw [show wu64 (q : Int) = q by rw [wu64_def]; omega]
  omega
def stir (h : Int) : Int := wu64 (wu64 (h * 6364136223846793005) + 1442695040888963407)
def pull (h : Int) : Int := wu64 ((BitVec.ofInt 64 ((stir h).fdiv (2 ^ (31))) &&& BitVec.ofInt 64 1073741823).toNat : Int)
section
variable {A : Type} (z : A)
theorem within_set {B : Int} {o : List Int} (h : within B o) (j : Nat) {v : Int} (hv : -B ≤ v ∧ v ≤ B) : within B (o.set j v) := by
  intro q hq
  rw [List.length_set] at hq
  rw [rd_set _ _ _ _ hq]
  split
  · exact hv
  · exact h q hq
end
end Go.Proofs.Ytlpooghphoohcaa.F
/- Facts on the functions of the first layer, whole: what the law of images draws. -/
namespace Go.Proofs.Ytlpooghphoohcaa.F
open Go.RowKit Go.Proofs.Ytlpooghphoohcaa.R
set_option linter.unusedVariables false
set_option linter.unusedSimpArgs false
section
variable {A : Type} (z : A)
theorem in8 {v : Int} (h : v ∈ [(1 : Int), 2, 3, 4, 5, 6, 7, 8]) : 1 ≤ v ∧ v ≤ 8 := by
  simp only [List.mem_cons, List.not_mem_nil, or_false] at h
  omega
theorem cyc_bd {n : Int} (h : 1 ≤ n ∧ n ≤ 16) : 1 ≤ cycD n.toNat ∧ cycD n.toNat ≤ 12 := by
  have C := cyc_facts (n := n.toNat) (by omega) (by omega)
  exact ⟨C.pos, C.le12⟩
end
end Go.Proofs.Ytlpooghphoohcaa.F
/- What images, conjugates, sums and lifts keep to. Plain. -/
namespace Go.Proofs.Ytlpooghphoohcaa.F
open Go.RowKit Go.Proofs.Ytlpooghphoohcaa.R
set_option linter.unusedVariables false
set_option linter.unusedSimpArgs false
theorem imT_nat {n : Nat} (h1 : 1 ≤ n) (h2 : n ≤ 16) {x : List Int} (hx : GoodZ n x) (a : Nat) : imT n x (a : Int) = tab (cycD n) (galN n x a) := by
  have C := cyc_facts h1 h2
  have := C.le12
  refine tab_congr fun m hm => ?_
  have h := gal_le C h1 (B := 1000000000) (by omega) hx.2 (by rw [hx.1]; omega) (a : Int) m
  rw [wrap_id (by omega) (by omega), gal_nat]
theorem gal_neg {n : Nat} (h1 : 1 ≤ n) (x : List Int) (m : Nat) : gal n x (-1) m = gal n x ((n - 1 : Nat) : Int) m := by
  unfold gal
  refine sumF_congr _ 0 fun i _ _ => ?_
  have e : ((i : Int) * ((n - 1 : Nat) : Int)) % (n : Int) = ((i : Int) * (-1)) % (n : Int) := by
    have e1 : (i : Int) * ((n - 1 : Nat) : Int) = (i : Int) * (-1) + (i : Int) * n := by
      rw [← Int.mul_add]
      congr 1
      omega
    rw [e1, Int.add_mul_emod_self_right]
  rw [e]
theorem imT_neg {n : Nat} (h1 : 1 ≤ n) (x : List Int) : imT n x (-1) = imT n x ((n - 1 : Nat) : Int) := tab_congr fun m _ => by rw [gal_neg h1]
theorem neg_tab : ∀ n : Nat, 1 ≤ n → n ≤ 16 → Nat.gcd (n - 1) n = 1 ∧ (n - 1) * (n - 1) % n = 1 % n :=
  by16 (by decide) (by decide) (by decide) (by decide) (by decide) (by decide) (by decide) (by decide) (by decide) (by decide) (by decide) (by decide) (by decide) (by decide) (by decide) (by decide)
theorem rd_imT {n : Nat} (x : List Int) (a : Int) {j : Nat} (hj : j < cycD n) : rd (imT n x a) j = wrap64 (gal n x a j) := tab_rd _ _ _ hj
/-- An image of a square is the square of the image. -/
theorem image_square {n : Nat} (h1 : 1 ≤ n) (h2 : n ≤ 16) {x y P Q : List Int} (hx : GoodZ n x) (hy : GoodZ n y) {a : Nat} (ha : Nat.gcd a n = 1) (hP : mulO n x y = some P) (hQ : mulO n (imT n x (a : Int)) (imT n y (a : Int)) = some Q) : imT n P (a : Int) = Q := by
  rw [imT_nat h1 h2 (mulO_good hP), ]
  rw [imT_nat h1 h2 hx, imT_nat h1 h2 hy] at hQ
  unfold mulO at hP hQ
  split at hP
  · split at hQ
    · cases hP
      cases hQ
      exact tab_congr fun m hm => gal_bil h1 h2 a ha x y m hm
    · cases hQ
  · cases hP
theorem bar_bar {n : Nat} (h1 : 1 ≤ n) (h2 : n ≤ 16) {x : List Int} (hx : GoodZ n x) (hy : GoodZ n (imT n x (-1))) : imT n (imT n x (-1)) (-1) = x := by
  obtain ⟨g, s⟩ := neg_tab n h1 h2
  rw [imT_neg h1 (imT n x (-1)), imT_nat h1 h2 hy, imT_neg h1, imT_nat h1 h2 hx]
  refine (tab_ext hx.1 fun m hm => ?_).symm
  rw [gal_gal h1 h2 _ _ g x m hm, gal_one (cyc_facts h1 h2) x hx.1 _ s m hm]
theorem plusL_length (x y : List Int) (v : Int) : (plusL x y v).length = x.length := addIn_length y v 0 y.length 0 x
theorem good_wrapped {n : Nat} {x : List Int} (hx : GoodZ n x) : Wrapped x := fun j hj => by
  have := hx.2 j hj
  exact wrap_id (by omega) (by omega)
theorem plusL_rd {n : Nat} {x y : List Int} (hx : GoodZ n x) (hy : GoodZ n y) (hs : GoodZ n (plusL x y 1)) {j : Nat} (hj : j < cycD n) : rd (plusL x y 1) j = rd x j + rd y j := by
  have l1 := hx.1
  have l2 := hy.1
  obtain ⟨a1, a2, a3⟩ := addIn_facts y 1 0 y.length 0 x (by omega) (good_wrapped hx)
  have h := a3 (fun i => if j = i then 1 else 0)
  have e : sumF 0 y.length (fun i => rd y i * (if j = 0 + i then 1 else 0)) = rd y j := by
    have := dot_one y j (by omega)
    unfold dot at this
    rw [← this]
    exact sumF_congr _ 0 fun i _ _ => by rw [Nat.zero_add]
  have hl : j < (addIn y 1 0 y.length 0 x).length := by rw [a1]; omega
  rw [e, dot_one x j (by omega), dot_one _ j hl, Int.one_mul] at h
  have := h.eq
  have b1 := hx.2 j (by omega)
  have b2 := hy.2 j (by omega)
  have b3 := hs.2 j (by rw [plusL_length]; omega)
  unfold plusL at b3 ⊢
  rw [wrap_id (x := rd x j + rd y j) (by omega) (by omega), wrap_id (by omega) (by omega)] at this
  exact this
theorem galN_plus {n : Nat} {x y s : List Int} (hx : x.length = cycD n) (hy : y.length = cycD n) (hs : s.length = cycD n) (h : ∀ j : Nat, j < cycD n → rd s j = rd x j + rd y j) (a m : Nat) : galN n s a m = galN n x a m + galN n y a m := by
  unfold galN
  rw [hx, hy, hs, ← sumF_add]
  exact sumF_congr _ 0 fun i _ hi => by rw [h i (by omega), Int.add_mul]
theorem plus_bar {n : Nat} (h1 : 1 ≤ n) (h2 : n ≤ 16) {x : List Int} (hx : GoodZ n x) (hy : GoodZ n (imT n x (-1))) (hs : GoodZ n (plusL x (imT n x (-1)) 1)) : imT n (plusL x (imT n x (-1)) 1) (-1) = plusL x (imT n x (-1)) 1 := by
  obtain ⟨g, s⟩ := neg_tab n h1 h2
  have bb := bar_bar h1 h2 hx hy
  have hp := fun {j : Nat} (hj : j < cycD n) => plusL_rd hx hy hs hj
  have e1 : imT n x (-1) = tab (cycD n) (galN n x (n - 1)) := by rw [imT_neg h1, imT_nat h1 h2 hx]
  have e2 : imT n (imT n x (-1)) (-1) = tab (cycD n) (galN n (imT n x (-1)) (n - 1)) := by rw [imT_neg h1 (imT n x (-1)), imT_nat h1 h2 hy]
  rw [imT_neg h1 (plusL x (imT n x (-1)) 1), imT_nat h1 h2 hs]
  refine (tab_ext hs.1 fun m hm => ?_).symm
  rw [hp hm, galN_plus hx.1 hy.1 hs.1 (fun j hj => hp hj)]
  have f1 : rd (imT n x (-1)) m = galN n x (n - 1) m := by rw [e1, tab_rd _ _ _ hm]
  have f2 : rd x m = galN n (imT n x (-1)) (n - 1) m := by
    have := tab_rd (cycD n) (galN n (imT n x (-1)) (n - 1)) m hm
    rw [← this, ← e2, bb]
  omega
theorem galQ_le {n : Nat} (C : CycFacts n) (hn : 1 ≤ n) {x : List Int} (hx : within 1000000000 x) (hl : x.length ≤ 12) (q : Nat → Nat) (m : Nat) : -12000000000 ≤ galQ n x q m ∧ galQ n x q m ≤ 12000000000 := by
  have h := sumF_le (B := 1000000000) (f := fun i => rd x i * cycW n m (q i)) x.length 0 (fun i _ hi => by
    have := mul_le (hx i (by omega)) (cycW_small C hn m (q i))
    omega)
  unfold galQ
  omega
theorem lift_kept {n m : Nat} (h1 : 1 ≤ n) (h2 : n ≤ 16) (m1 : 1 ≤ m) (m2 : m ≤ 16) (hd : m % n = 0) {x : List Int} (hx : GoodZ n x) (hL : GoodZ m (liftT m (m / n) x)) {a : Nat} (ha1 : 1 ≤ a) (ha : Nat.gcd a m = 1) (hm : (a - 1) % n = 0) : imT m (liftT m (m / n) x) (a : Int) = liftT m (m / n) x := by
  have C := cyc_facts m1 m2
  have Cn := cyc_facts h1 h2
  have := Cn.le12
  have lx := hx.1
  have e : liftT m (m / n) x = tab (cycD m) (galQ m x (fun i => i * (m / n) % m)) := tab_congr fun j _ => by
    have := galQ_le C m1 hx.2 (by omega) (fun i => i * (m / n) % m) j
    exact w64_id (by omega) (by omega)
  rw [imT_nat m1 m2 hL, e]
  refine tab_congr fun j hj => ?_
  rw [gal_galQ m1 m2 a ha x _ j hj]
  unfold galQ
  refine sumF_congr _ 0 fun i _ _ => congrArg (rd x i * ·) ?_
  rw [cycW_mul, ← cycW_mod m j (i * (m / n) * a), ← cycW_mod m j (i * (m / n) % m), Nat.mod_mod]
  congr 1
  obtain ⟨t, ht⟩ : ∃ t, a = 1 + n * t := ⟨(a - 1) / n, by have := Nat.div_add_mod (a - 1) n; omega⟩
  have hs : n * (m / n) = m := by have := Nat.div_add_mod m n; omega
  rw [ht, Nat.mul_add, Nat.mul_one, show i * (m / n) * (n * t) = m * (i * t) by rw [Nat.mul_assoc, ← Nat.mul_assoc (m / n), Nat.mul_comm (m / n) n, hs, Nat.mul_left_comm], Nat.add_mul_mod_self_left]
theorem allF_true {n m : Nat} {x : List Int} (h : ∀ a : Nat, 1 ≤ a → Nat.gcd a n = 1 → (a - 1) % m = 0 → imT n x (a : Int) = x) : ∀ (d a : Nat), 1 ≤ a → allF n m x d a = true
  | 0, a, _ => rfl
  | d + 1, a, ha => by
    rw [allF]
    by_cases c : (a - 1) % m = 0 ∧ Nat.gcd a n = 1
    · rw [if_pos c, if_pos (h a ha c.2 c.1), allF_true h d (a + 1) (by omega)]
    · rw [if_neg c, allF_true h d (a + 1) (by omega)]
end Go.Proofs.Ytlpooghphoohcaa.F
/- What the functions of the first layer answer, when they answer. Plain. -/
namespace Go.Proofs.Ytlpooghphoohcaa.F
open Go.RowKit Go.Proofs.Ytlpooghphoohcaa.R
set_option linter.unusedVariables false
set_option linter.unusedSimpArgs false
theorem told3_zero {n : Int} {l : List Int} (h : (told3 n l).2.2 = 0) : smallL l = true ∧ told3 n l = (n, l, 0) := by
  unfold told3 at h ⊢
  split at h
  · rename_i c; exact ⟨c, if_pos c⟩
  · exact absurd h (by decide)
theorem isC_of {n : Nat} (h1 : 1 ≤ n) (h2 : n ≤ 16) {l : List Int} (hl : l.length = cycD n) (hs : smallL l = true) : isC (n : Int) l = true := by
  unfold isC
  rw [decide_eq_true (show 1 ≤ (n : Int) ∧ (n : Int) ≤ 16 by omega), Int.toNat_natCast, decide_eq_true hl, hs]
  rfl
theorem told3_len (n : Int) (l : List Int) : (told3 n l).2.1.length ≤ l.length := by
  unfold told3
  split
  · exact Nat.le_refl _
  · exact Nat.zero_le _
theorem gal3_zero {n a : Int} {x : List Int} (h : (gal3 n x a).2.2 = 0) : ∃ m b : Nat, n = m ∧ a = b ∧ 1 ≤ m ∧ m ≤ 16 ∧ GoodZ m x ∧ 1 ≤ b ∧ b ≤ m ∧ Nat.gcd b m = 1 ∧ smallL (imT m x (b : Int)) = true ∧ gal3 n x a = ((m : Int), imT m x (b : Int), 0) := by
  unfold gal3 at h ⊢
  split at h
  · rename_i c
    obtain ⟨m, rfl, h1, h2, h3, h4, h5⟩ := isC_x c
    rw [Int.toNat_natCast] at h ⊢
    split at h
    · rename_i c2
      obtain ⟨b, rfl⟩ : ∃ j : Nat, a = j := ⟨a.toNat, by omega⟩
      obtain ⟨s, e⟩ := told3_zero h
      exact ⟨m, b, rfl, rfl, h1, h2, h5, by omega, by omega, c2.2, s, by rw [if_pos c, if_pos c2, e]⟩
    · exact absurd h (by decide)
  · exact absurd h (by decide)
theorem gal3_len {n a : Int} {x : List Int} : (gal3 n x a).2.1.length ≤ 12 := by
  unfold gal3
  split
  · rename_i c
    obtain ⟨m, rfl, h1, h2, h3, h4, h5⟩ := isC_x c
    split
    · refine Nat.le_trans (told3_len _ _) ?_
      rw [imT_len, Int.toNat_natCast]
      exact le12 h1 h2
    · exact Nat.zero_le _
  · exact Nat.zero_le _
theorem mul3_zero {m n : Int} {x y : List Int} (h : (mul3 m x n y).2.2 = 0) : ∃ P, isC m x = true ∧ isC n y = true ∧ m = n ∧ mulO m.toNat x y = some P ∧ mul3 m x n y = (m, P, 0) := by
  unfold mul3 at h ⊢
  split at h
  · rename_i c; exact absurd h c
  · rename_i c
    obtain ⟨c1, c2, c3⟩ := codeC_zero (Decidable.of_not_not c)
    rw [if_neg c]
    cases e : mulO m.toNat x y with
    | none =>
      rw [e] at h
      have h : (3 : Int) = 0 := h
      omega
    | some P => exact ⟨P, c1, c2, c3, rfl, rfl⟩
theorem mul3_len {m n : Int} {x y : List Int} : (mul3 m x n y).2.1.length ≤ 12 := by
  unfold mul3
  split
  · exact Nat.zero_le _
  · rename_i c
    obtain ⟨c1, c2, c3⟩ := codeC_zero (Decidable.of_not_not c)
    obtain ⟨m, rfl, h1, h2, h3, h4, h5⟩ := isC_x c1
    rw [Int.toNat_natCast]
    cases e : mulO m x y with
    | none => exact Nat.zero_le _
    | some P =>
      have := (mulO_good e).1
      have := le12 h1 h2
      show P.length ≤ 12
      omega
/-- The square's image, and the image's square. -/
theorem square_kept {n a : Int} {x : List Int} (h : (gal3 n x a).2.2 = 0) (h1 : (mul3 n x n x).2.2 = 0) (h2 : (gal3 (mul3 n x n x).1 (mul3 n x n x).2.1 a).2.2 = 0)
    (h3 : (mul3 (gal3 n x a).1 (gal3 n x a).2.1 (gal3 n x a).1 (gal3 n x a).2.1).2.2 = 0) :
    (gal3 (mul3 n x n x).1 (mul3 n x n x).2.1 a).1 = (mul3 (gal3 n x a).1 (gal3 n x a).2.1 (gal3 n x a).1 (gal3 n x a).2.1).1 ∧
    (gal3 (mul3 n x n x).1 (mul3 n x n x).2.1 a).2.1 = (mul3 (gal3 n x a).1 (gal3 n x a).2.1 (gal3 n x a).1 (gal3 n x a).2.1).2.1 := by
  obtain ⟨m, b, rfl, rfl, m1, m2, gx, b1, b2, g, s, e⟩ := gal3_zero h
  obtain ⟨P, c1, c2, c3, p1, p2⟩ := mul3_zero h1
  rw [p2] at h2 ⊢
  obtain ⟨m', b', hm, hb, _, _, gp, _, _, _, sp, ep⟩ := gal3_zero h2
  have hm : m' = m := by have : (m : Int) = m' := hm; omega
  have hb : b' = b := by omega
  subst hm hb
  rw [e] at h3 ⊢
  obtain ⟨Q, d1, d2, d3, q1, q2⟩ := mul3_zero h3
  rw [q2, ep]
  rw [Int.toNat_natCast] at p1 q1
  exact ⟨rfl, image_square m1 m2 gx gx g p1 q1⟩
theorem bar3_zero {n : Int} {x : List Int} (h : (bar3 n x).2.2 = 0) : ∃ m : Nat, n = m ∧ 1 ≤ m ∧ m ≤ 16 ∧ GoodZ m x ∧ GoodZ m (imT m x (-1)) ∧ bar3 n x = ((m : Int), imT m x (-1), 0) := by
  unfold bar3 at h ⊢
  split at h
  · rename_i c
    obtain ⟨m, rfl, h1, h2, h3, h4, h5⟩ := isC_x c
    rw [Int.toNat_natCast] at h ⊢
    obtain ⟨s, e⟩ := told3_zero h
    exact ⟨m, rfl, h1, h2, h5, ⟨imT_len _ _ _, smallL_within.1 s⟩, by rw [if_pos c, e]⟩
  · exact absurd h (by decide)
theorem bar3_of {m : Nat} (h1 : 1 ≤ m) (h2 : m ≤ 16) {x : List Int} (hx : GoodZ m x) (hy : GoodZ m (imT m x (-1))) : bar3 (m : Int) x = ((m : Int), imT m x (-1), 0) := by
  unfold bar3
  rw [if_pos (isC_of h1 h2 hx.1 (good_small hx)), Int.toNat_natCast]
  unfold told3
  rw [if_pos (good_small hy)]
theorem bar3_len {n : Int} {x : List Int} : (bar3 n x).2.1.length ≤ 12 := by
  unfold bar3
  split
  · rename_i c
    obtain ⟨m, rfl, h1, h2, h3, h4, h5⟩ := isC_x c
    refine Nat.le_trans (told3_len _ _) ?_
    rw [imT_len, Int.toNat_natCast]
    exact le12 h1 h2
  · exact Nat.zero_le _
theorem bar_kept {n : Int} {x : List Int} (h : (bar3 n x).2.2 = 0) : bar3 (bar3 n x).1 (bar3 n x).2.1 = (n, x, 0) := by
  obtain ⟨m, rfl, m1, m2, gx, gy, e⟩ := bar3_zero h
  have bb := bar_bar m1 m2 gx gy
  rw [e]
  show bar3 (m : Int) (imT m x (-1)) = _
  rw [bar3_of m1 m2 gy (by rw [bb]; exact gx), bb]
theorem add3_len {m n : Int} {x y : List Int} {v : Int} : (add3 m x n y v).2.1.length ≤ 12 := by
  unfold add3
  split
  · exact Nat.zero_le _
  · rename_i c
    obtain ⟨c1, c2, c3⟩ := codeC_zero (Decidable.of_not_not c)
    obtain ⟨m, rfl, h1, h2, h3, h4, h5⟩ := isC_x c1
    split
    · refine Nat.le_trans (told3_len _ _) ?_
      rw [plusL_length]
      exact h4
    · exact Nat.zero_le _
theorem plus_kept {n : Int} {x : List Int} (h : (bar3 n x).2.2 = 0) (h2 : (add3 n x (bar3 n x).1 (bar3 n x).2.1 1).2.2 = 0) : real2 (add3 n x (bar3 n x).1 (bar3 n x).2.1 1).1 (add3 n x (bar3 n x).1 (bar3 n x).2.1 1).2.1 = (true, 0) := by
  obtain ⟨m, rfl, m1, m2, gx, gy, e⟩ := bar3_zero h
  rw [e] at h2 ⊢
  have h2 : (add3 (m : Int) x (m : Int) (imT m x (-1)) 1).2.2 = 0 := h2
  show real2 (add3 (m : Int) x (m : Int) (imT m x (-1)) 1).1 (add3 (m : Int) x (m : Int) (imT m x (-1)) 1).2.1 = _
  unfold add3 at h2 ⊢
  split at h2
  · rename_i c; exact absurd h2 c
  · rename_i c
    rw [if_neg c]
    rw [if_pos (show -1000 ≤ (1 : Int) ∧ (1 : Int) ≤ 1000 by omega)] at h2 ⊢
    obtain ⟨s, e3⟩ := told3_zero h2
    rw [e3]
    have gs : GoodZ m (plusL x (imT m x (-1)) 1) := ⟨by rw [plusL_length]; exact gx.1, smallL_within.1 s⟩
    show real2 (m : Int) (plusL x (imT m x (-1)) 1) = _
    unfold real2
    rw [if_pos (isC_of m1 m2 gs.1 s), Int.toNat_natCast, decide_eq_true (plus_bar m1 m2 gx gy gs)]
theorem lift3_len {n m : Int} {x : List Int} : (lift3 n x m).2.1.length ≤ 12 := by
  unfold lift3
  split
  · split
    · split
      · refine Nat.le_trans (told3_len _ _) ?_
        unfold liftT
        rw [tab_length]
        exact le12 (by omega) (by omega)
      · exact Nat.zero_le _
    · exact Nat.zero_le _
  · exact Nat.zero_le _
theorem lift3_kept {n m : Int} {x : List Int} (h : (lift3 n x m).2.2 = 0) : inF (lift3 n x m).1 (lift3 n x m).2.1 n = (true, 0) := by
  unfold lift3 at h ⊢
  split at h
  · rename_i c
    obtain ⟨n, rfl, h1, h2, h3, h4, h5⟩ := isC_x c
    rw [if_pos c]
    split at h
    · rename_i c2
      obtain ⟨m, rfl⟩ : ∃ j : Nat, m = j := ⟨m.toNat, by omega⟩
      rw [if_pos c2]
      rw [Int.toNat_natCast, Int.toNat_natCast] at h ⊢
      split at h
      · rename_i c3
        rw [if_pos c3]
        obtain ⟨s, e⟩ := told3_zero h
        rw [e]
        have hl : (liftT m (m / n) x).length = cycD m := tab_length _ _
        have gs : GoodZ m (liftT m (m / n) x) := ⟨hl, smallL_within.1 s⟩
        show inF (m : Int) (liftT m (m / n) x) (n : Int) = _
        unfold inF
        rw [if_pos (isC_of (by omega) (by omega) hl s), Int.toNat_natCast, Int.toNat_natCast, if_pos ⟨by omega, c3⟩]
        rw [allF_true (fun a a1 a2 a3 => lift_kept h1 h2 (by omega) (by omega) c3 h5 gs a1 a2 a3) m 1 (by omega)]
      · exact absurd h (by decide)
    · exact absurd h (by decide)
  · exact absurd h (by decide)
end Go.Proofs.Ytlpooghphoohcaa.F
/- Facts on the functions of the first layer: products by the other side. -/
namespace Go.Proofs.Ytlpooghphoohcaa.F
open Go.RowKit Go.Proofs.Ytlpooghphoohcaa.R
set_option linter.unusedVariables false
set_option linter.unusedSimpArgs false
section
variable {A : Type} (z : A)
theorem tab_getD {d : Nat} {g : Nat → Int} {m : Nat} (hm : m < d) : (tab d g).getD m 0 = g m := by
  have := tab_rd d g m hm
  unfold rd at this
  rwa [Int.toNat_natCast] at this
def okH (H : Nat → Int) : Nat → Nat → Bool
  | 0, _ => true
  | d + 1, m => decide (-10000000000000 ≤ H m ∧ H m ≤ 10000000000000) && okH H d (m + 1)
theorem okH_all {H : Nat → Int} : ∀ (d m : Nat), (∀ j, m ≤ j → j < m + d → -10000000000000 ≤ H j ∧ H j ≤ 10000000000000) → okH H d m = true
  | 0, m, _ => rfl
  | d + 1, m, h => by
    rw [okH, okH_all d (m + 1) (fun j h1 h2 => h j (by omega) (by omega)), decide_eq_true (h m (Nat.le_refl _) (by omega))]
    rfl
end
end Go.Proofs.Ytlpooghphoohcaa.F
/- Norms of cyclotomic numbers, exact: they are rational, and the norm of a product is the product of the norms. Plain. -/
namespace Go.Proofs.Ytlpooghphoohcaa.F
open Go.RowKit Go.Proofs.Ytlpooghphoohcaa.R
set_option linter.unusedVariables false
set_option linter.unusedSimpArgs false
/-- The product, exact. -/
def mulT (n : Nat) (x y : List Int) : List Int := tab (cycD n) (bil n x y)
/-- The image, exact. -/
def imN (n : Nat) (x : List Int) (a : Nat) : List Int := tab (cycD n) (galN n x a)
/-- A whole number. -/
def ratT (n : Nat) (c : Int) : List Int := tab (cycD n) fun m => if m = 0 then c else 0
theorem mulT_len (n : Nat) (x y : List Int) : (mulT n x y).length = cycD n := tab_length _ _
theorem imN_len (n : Nat) (x : List Int) (a : Nat) : (imN n x a).length = cycD n := tab_length _ _
theorem ratT_len (n : Nat) (c : Int) : (ratT n c).length = cycD n := tab_length _ _
theorem bil_comm (n : Nat) (x y : List Int) (m : Nat) : bil n x y m = bil n y x m := by
  have e : ∀ (a b : List Int), bil n a b m = sumF 0 a.length (fun i => sumF 0 b.length (fun k => rd a i * (rd b k * cycW n m (i + k)))) := fun a b => sumF_congr _ 0 fun i _ _ => (sumF_left _ _ _ _).symm
  rw [e, e, sumF_swap]
  exact sumF_congr _ 0 fun k _ _ => sumF_congr _ 0 fun i _ _ => by rw [Int.mul_left_comm, Nat.add_comm]
theorem mulT_comm (n : Nat) (x y : List Int) : mulT n x y = mulT n y x := tab_congr fun m _ => bil_comm n x y m
theorem mulT_assoc {n : Nat} (h1 : 1 ≤ n) (h2 : n ≤ 16) (x y w : List Int) : mulT n (mulT n x y) w = mulT n x (mulT n y w) := by
  refine tab_congr fun m hm => ?_
  have L : bil n (mulT n x y) w m = sumF 0 x.length (fun i => rd x i * sumF 0 y.length (fun k => rd y k * sumF 0 w.length (fun l => rd w l * cycW n m (i + k + l)))) := by
    unfold bil
    rw [mulT_len, sumF_congr (cycD n) 0 (g := fun j => sumF 0 x.length (fun i => rd x i * sumF 0 y.length (fun k => rd y k * cycW n j (i + k))) * sumF 0 w.length (fun l => rd w l * cycW n m (j + l))) (fun j _ hj => by rw [mulT, tab_rd _ _ _ (by omega)]; rfl), lin]
    refine sumF_congr _ 0 fun i _ _ => congrArg (rd x i * ·) ?_
    rw [lin]
    refine sumF_congr _ 0 fun k _ _ => congrArg (rd y k * ·) ?_
    rw [lin2]
    exact sumF_congr _ 0 fun l _ _ => congrArg (rd w l * ·) (cyc_mul h1 h2 (i + k) l m hm)
  rw [L]
  unfold bil
  refine sumF_congr _ 0 fun i _ _ => congrArg (rd x i * ·) ?_
  rw [mulT_len, sumF_congr (cycD n) 0 (g := fun j => sumF 0 y.length (fun k => rd y k * sumF 0 w.length (fun l => rd w l * cycW n j (k + l))) * cycW n m (j + i)) (fun j _ hj => by rw [mulT, tab_rd _ _ _ (by omega), Nat.add_comm i j]; rfl), lin]
  refine sumF_congr _ 0 fun k _ _ => congrArg (rd y k * ·) ?_
  rw [lin]
  refine sumF_congr _ 0 fun l _ _ => congrArg (rd w l * ·) ?_
  rw [cyc_mul h1 h2 (k + l) i m hm]
  congr 1
  omega
theorem mulT_right {n : Nat} (h1 : 1 ≤ n) (h2 : n ≤ 16) (z w y : List Int) : mulT n (mulT n z w) y = mulT n (mulT n z y) w := by
  rw [mulT_assoc h1 h2, mulT_comm n w y, ← mulT_assoc h1 h2]
theorem mulT_four {n : Nat} (h1 : 1 ≤ n) (h2 : n ≤ 16) (z w p q : List Int) : mulT n (mulT n z w) (mulT n p q) = mulT n (mulT n z p) (mulT n w q) := by
  rw [mulT_assoc h1 h2, ← mulT_assoc h1 h2 w p q, mulT_comm n w p, mulT_assoc h1 h2 p w q, ← mulT_assoc h1 h2]
theorem dot_unit {n : Nat} (C : CycFacts n) {x : List Int} (hx : x.length = cycD n) {m : Nat} (hm : m < cycD n) : sumF 0 x.length (fun i => rd x i * cycW n m i) = rd x m := by
  rw [← dot_one x m (by omega)]
  unfold dot
  exact sumF_congr _ 0 fun i _ hi => by rw [C.unit i (by omega) m hm]
theorem rat_sum {n : Nat} (C : CycFacts n) (c : Int) (f : Nat → Int) : sumF 0 (cycD n) (fun k => rd (ratT n c) k * f k) = c * f 0 := by
  have h := sumF_hit 0 (fun k => c * f k) (cycD n) 0 (Nat.le_refl _) (by have := C.pos; omega)
  rw [← h]
  refine sumF_congr _ 0 fun k _ hk => ?_
  rw [ratT, tab_rd _ _ _ (by omega)]
  by_cases e : k = 0
  · rw [if_pos e, if_pos e.symm]
  · rw [if_neg e, if_neg (fun g => e g.symm), Int.zero_mul]
theorem bil_rat {n : Nat} (C : CycFacts n) {x : List Int} (hx : x.length = cycD n) (c : Int) {m : Nat} (hm : m < cycD n) : bil n x (ratT n c) m = c * rd x m := by
  unfold bil
  rw [ratT_len, sumF_congr _ 0 (g := fun i => c * (rd x i * cycW n m i)) (fun i _ _ => by rw [rat_sum C c, Nat.add_zero, Int.mul_left_comm]), sumF_left, dot_unit C hx hm]
theorem mulT_one {n : Nat} (C : CycFacts n) {x : List Int} (hx : x.length = cycD n) : mulT n x (ratT n 1) = x :=
  (tab_ext hx fun m hm => by rw [bil_rat C hx 1 hm, Int.one_mul]).symm
theorem rat_rat {n : Nat} (C : CycFacts n) (a b : Int) : mulT n (ratT n a) (ratT n b) = ratT n (a * b) := by
  refine tab_congr fun m hm => ?_
  rw [bil_rat C (ratT_len n a) b hm, ratT, tab_rd _ _ _ hm]
  by_cases e : m = 0
  · rw [if_pos e, if_pos e, Int.mul_comm]
  · rw [if_neg e, if_neg e, Int.mul_zero]
theorem imN_rat {n : Nat} (C : CycFacts n) (c : Int) (a : Nat) : imN n (ratT n c) a = ratT n c := by
  refine tab_congr fun m hm => ?_
  unfold galN
  rw [ratT_len, rat_sum C c, Nat.zero_mul, C.unit 0 C.pos m hm]
  by_cases e : m = 0
  · rw [if_pos e, if_pos e, Int.mul_one]
  · rw [if_neg e, if_neg e, Int.mul_zero]
theorem imN_mul {n : Nat} (h1 : 1 ≤ n) (h2 : n ≤ 16) {a : Nat} (ha : Nat.gcd a n = 1) (x y : List Int) : imN n (mulT n x y) a = mulT n (imN n x a) (imN n y a) := tab_congr fun m hm => gal_bil h1 h2 a ha x y m hm
theorem imN_imN {n : Nat} (h1 : 1 ≤ n) (h2 : n ≤ 16) (a : Nat) {b : Nat} (hb : Nat.gcd b n = 1) (x : List Int) : imN n (imN n x a) b = imN n x (a * b) := tab_congr fun m hm => gal_gal h1 h2 a b hb x m hm
theorem imN_mod (n : Nat) (x : List Int) {a b : Nat} (h : a % n = b % n) : imN n x a = imN n x b := by
  refine tab_congr fun m _ => sumF_congr _ 0 fun i _ _ => ?_
  rw [← cycW_mod n m (i * a), ← cycW_mod n m (i * b), Nat.mul_mod, h, ← Nat.mul_mod]
/-- The products of a list's numbers, exact. -/
def prodT (n : Nat) : List (List Int) → List Int → List Int
  | [], z => z
  | y :: t, z => prodT n t (mulT n z y)
theorem prodT_len (n : Nat) : ∀ (ys : List (List Int)) (z : List Int), z.length = cycD n → (prodT n ys z).length = cycD n
  | [], z, h => h
  | y :: t, z, h => prodT_len n t _ (mulT_len _ _ _)
theorem runO_prod {n : Nat} : ∀ (ys : List (List Int)) (z R : List Int), runO n ys z = some R → R = prodT n ys z
  | [], z, R, h => by unfold runO at h; cases h; rfl
  | y :: t, z, R, h => by
    unfold runO at h
    obtain ⟨z', h1, h2⟩ := Option.bind_eq_some_iff.1 h
    have e : z' = mulT n z y := by
      unfold mulO at h1
      split at h1
      · cases h1; rfl
      · cases h1
    rw [runO_prod t z' R h2, e]
    rfl
theorem prodT_mul {n : Nat} (h1 : 1 ≤ n) (h2 : n ≤ 16) (w : List Int) : ∀ (ys : List (List Int)) (z : List Int), prodT n ys (mulT n z w) = mulT n (prodT n ys z) w
  | [], z => rfl
  | y :: t, z => by
    show prodT n t (mulT n (mulT n z w) y) = mulT n (prodT n t (mulT n z y)) w
    rw [mulT_right h1 h2, prodT_mul h1 h2 w t]
theorem prodT_perm {n : Nat} (h1 : 1 ≤ n) (h2 : n ≤ 16) {ys zs : List (List Int)} (h : ys.Perm zs) : ∀ z, prodT n ys z = prodT n zs z := by
  induction h with
  | nil => intro z; rfl
  | cons a _ ih => intro z; exact ih _
  | swap a b l =>
    intro z
    show prodT n l (mulT n (mulT n z b) a) = prodT n l (mulT n (mulT n z a) b)
    rw [mulT_right h1 h2]
  | trans _ _ ih1 ih2 => intro z; rw [ih1 z, ih2 z]
theorem prodT_img {n : Nat} (h1 : 1 ≤ n) (h2 : n ≤ 16) {a : Nat} (ha : Nat.gcd a n = 1) : ∀ (ys : List (List Int)) (z : List Int), imN n (prodT n ys z) a = prodT n (ys.map fun y => imN n y a) (imN n z a)
  | [], z => rfl
  | y :: t, z => by
    show imN n (prodT n t (mulT n z y)) a = prodT n (t.map fun y => imN n y a) (mulT n (imN n z a) (imN n y a))
    rw [prodT_img h1 h2 ha t, imN_mul h1 h2 ha]
theorem prodT_both {n : Nat} (h1 : 1 ≤ n) (h2 : n ≤ 16) (f g : Nat → List Int) : ∀ (U : List Nat) (z w : List Int), prodT n (U.map fun a => mulT n (f a) (g a)) (mulT n z w) = mulT n (prodT n (U.map f) z) (prodT n (U.map g) w)
  | [], z, w => rfl
  | a :: U, z, w => by
    show prodT n (U.map fun a => mulT n (f a) (g a)) (mulT n (mulT n z w) (mulT n (f a) (g a))) = mulT n (prodT n (U.map f) (mulT n z (f a))) (prodT n (U.map g) (mulT n w (g a)))
    rw [mulT_four h1 h2, prodT_both h1 h2 f g U]
/-! ### The units -/
def unitsN (n : Nat) : List Nat := ((List.range n).map fun a => a + 1).filter fun a => Nat.gcd a n == 1
def turnN (n b a : Nat) : Nat := (a * b + n - 1) % n + 1
def unitsOk (n : Nat) : Bool := decide (unitsL (n : Int) = (unitsN n).map fun a : Nat => (a : Int)) && (decide ((unitsN n).length = cycD n) &&
  ((unitsN n).all fun b => ((unitsN n).map (turnN n b)).isPerm (unitsN n)) && (List.range n).all fun i => (List.range (cycD n)).all fun m => decide (m = 0) || decide (sumF 0 (cycD n) (fun q => cycW n m (i * (unitsN n).getD q 0)) = 0))
theorem units_all : ((List.range 16).all fun q => unitsOk (q + 1)) = true := by decide +kernel
theorem mem_unitsN {n a : Nat} : a ∈ unitsN n ↔ (1 ≤ a ∧ a ≤ n) ∧ Nat.gcd a n = 1 := by
  unfold unitsN
  rw [List.mem_filter, List.mem_map, beq_iff_eq]
  constructor
  · rintro ⟨⟨j, h, rfl⟩, h2⟩
    have := List.mem_range.1 h
    exact ⟨by omega, h2⟩
  · rintro ⟨h, h2⟩
    exact ⟨⟨a - 1, List.mem_range.2 (by omega), by omega⟩, h2⟩
structure UnitsFacts (n : Nat) : Prop where
  eqL : unitsL (n : Int) = (unitsN n).map fun a : Nat => (a : Int)
  len : (unitsN n).length = cycD n
  perm : ∀ b ∈ unitsN n, ((unitsN n).map (turnN n b)).Perm (unitsN n)
  none : ∀ i m, m ≠ 0 → m < cycD n → sumF 0 (cycD n) (fun q => cycW n m (i * (unitsN n).getD q 0)) = 0
theorem units_facts {n : Nat} (h1 : 1 ≤ n) (h2 : n ≤ 16) : UnitsFacts n := by
  have h := List.all_eq_true.1 units_all (n - 1) (List.mem_range.2 (by omega))
  have e : n - 1 + 1 = n := by omega
  rw [e] at h
  unfold unitsOk at h
  simp only [Bool.and_eq_true, decide_eq_true_eq, List.all_eq_true, List.mem_range, Bool.or_eq_true] at h
  obtain ⟨a, ⟨b, c⟩, d⟩ := h
  refine ⟨a, b, fun q hq => List.isPerm_iff.1 (c q hq), fun i m h0 hm => ?_⟩
  have g := (d (i % n) (Nat.mod_lt _ h1) m hm).resolve_left h0
  rw [← g]
  exact sumF_congr _ 0 fun q _ _ => by rw [cycW_mul]
theorem turnN_mod {n : Nat} (h1 : 1 ≤ n) (b a : Nat) : turnN n b a % n = a * b % n := by
  unfold turnN
  rw [Nat.mod_add_mod, show a * b + n - 1 + 1 = a * b + n by omega, Nat.add_mod_right]
/-- The product of all images, and the norm. -/
def nrmP (n : Nat) (x : List Int) : List Int := prodT n ((unitsN n).map (imN n x)) (ratT n 1)
def nrm (n : Nat) (x : List Int) : Int := rd (nrmP n x) (0 : Nat)
theorem nrmP_len (n : Nat) (x : List Int) : (nrmP n x).length = cycD n := prodT_len n _ _ (ratT_len n 1)
theorem images_turn {n : Nat} (h1 : 1 ≤ n) (h2 : n ≤ 16) (x : List Int) {b : Nat} (hb : b ∈ unitsN n) : ((unitsN n).map fun a => imN n x (a * b)).Perm ((unitsN n).map (imN n x)) := by
  have e : ((unitsN n).map fun a => imN n x (a * b)) = ((unitsN n).map (turnN n b)).map (imN n x) := by
    rw [List.map_map]
    exact List.map_congr_left fun a _ => imN_mod n x (turnN_mod h1 b a).symm
  rw [e]
  exact ((units_facts h1 h2).perm b hb).map _
theorem nrmP_inv {n : Nat} (h1 : 1 ≤ n) (h2 : n ≤ 16) (x : List Int) {b : Nat} (hb : b ∈ unitsN n) : imN n (nrmP n x) b = nrmP n x := by
  have gb := (mem_unitsN.1 hb).2
  unfold nrmP
  rw [prodT_img h1 h2 gb, imN_rat (cyc_facts h1 h2), List.map_map]
  have e : ((unitsN n).map ((fun y => imN n y b) ∘ imN n x)) = (unitsN n).map fun a => imN n x (a * b) := List.map_congr_left fun a _ => imN_imN h1 h2 a gb x
  rw [e, prodT_perm h1 h2 (images_turn h1 h2 x hb)]
theorem sumF_const (c : Int) : ∀ (d k : Nat), sumF k d (fun _ => c) = (d : Int) * c
  | 0, k => by unfold sumF; omega
  | d + 1, k => by
    show c + sumF (k + 1) d (fun _ => c) = _
    rw [sumF_const c d (k + 1), Int.natCast_add, Int.add_mul]
    omega
/-- What no image changes is a whole number. -/
theorem rational {n : Nat} (h1 : 1 ≤ n) (h2 : n ≤ 16) {P : List Int} (hl : P.length = cycD n) (h : ∀ b ∈ unitsN n, imN n P b = P) : P = ratT n (rd P (0 : Nat)) := by
  have U := units_facts h1 h2
  have C := cyc_facts h1 h2
  refine tab_ext hl fun m hm => ?_
  by_cases e : m = 0
  · rw [e, if_pos rfl]
  · rw [if_neg e]
    have s1 : sumF 0 (cycD n) (fun q => galN n P ((unitsN n).getD q 0) m) = (cycD n : Int) * rd P m := by
      rw [← sumF_const]
      refine sumF_congr _ 0 fun q _ hq => ?_
      have hq : q < (unitsN n).length := by rw [U.len]; omega
      have hm2 : (unitsN n).getD q 0 ∈ unitsN n := by rw [List.getD_eq_getElem?_getD, List.getElem?_eq_getElem hq, Option.getD_some]; exact List.getElem_mem hq
      have := tab_rd (cycD n) (galN n P ((unitsN n).getD q 0)) m hm
      rw [← this]
      exact congrArg (fun L => rd L m) (h _ hm2)
    have s2 : sumF 0 (cycD n) (fun q => galN n P ((unitsN n).getD q 0) m) = 0 := by
      unfold galN
      rw [sumF_swap, sumF_congr _ 0 (g := fun _ => (0 : Int)) (fun i _ _ => by rw [sumF_left, U.none i m e hm, Int.mul_zero]), sumF_zero]
    rw [s2] at s1
    have := C.pos
    rcases Int.mul_eq_zero.1 s1.symm with g | g
    · omega
    · exact g
theorem nrmP_rat {n : Nat} (h1 : 1 ≤ n) (h2 : n ≤ 16) (x : List Int) : nrmP n x = ratT n (nrm n x) := rational h1 h2 (nrmP_len n x) fun b hb => nrmP_inv h1 h2 x hb
theorem rat_zero {n : Nat} (C : CycFacts n) (c : Int) : rd (ratT n c) (0 : Nat) = c := by rw [ratT, tab_rd _ _ _ (by have := C.pos; omega), if_pos rfl]
/-- The norm of a product is the product of the norms. -/
theorem nrm_mul {n : Nat} (h1 : 1 ≤ n) (h2 : n ≤ 16) (x y : List Int) : nrm n (mulT n x y) = nrm n x * nrm n y := by
  have C := cyc_facts h1 h2
  have e : nrmP n (mulT n x y) = mulT n (nrmP n x) (nrmP n y) := by
    unfold nrmP
    rw [← prodT_both h1 h2, rat_rat C, Int.mul_one]
    congr 1
    exact List.map_congr_left fun a ha => imN_mul h1 h2 (mem_unitsN.1 ha).2 x y
  rw [nrmP_rat h1 h2 x, nrmP_rat h1 h2 y, rat_rat C] at e
  unfold nrm
  rw [e, rat_zero C]
  rfl
theorem nrm_img {n : Nat} (h1 : 1 ≤ n) (h2 : n ≤ 16) (x : List Int) {b : Nat} (hb : b ∈ unitsN n) : nrm n (imN n x b) = nrm n x := by
  unfold nrm nrmP
  have e : ((unitsN n).map (imN n (imN n x b))) = (unitsN n).map fun a => imN n x (a * b) := List.map_congr_left fun a ha => by rw [imN_imN h1 h2 b (mem_unitsN.1 ha).2, Nat.mul_comm]
  rw [e, prodT_perm h1 h2 (images_turn h1 h2 x hb)]
end Go.Proofs.Ytlpooghphoohcaa.F
/- Facts on norms: images, their products, norms, by the program. -/
namespace Go.Proofs.Ytlpooghphoohcaa.F
open Go.RowKit Go.Proofs.Ytlpooghphoohcaa.R
set_option linter.unusedVariables false
set_option linter.unusedSimpArgs false
def imgL (n : Nat) (x : List Int) : List (List Int) := (unitsL (n : Int)).map fun a => imT n x a
def norm2 (n : Int) (x : List Int) : Int × Int := if isC n x = true then (match runO n.toNat (imgL n.toNat x) (oneT n.toNat) with | some R => (rd R (0 : Nat), 0) | none => (0, 3)) else (0, 1)
theorem oneT_rat (n : Nat) : oneT n = ratT n 1 := rfl
theorem imgL_len {n : Nat} (h1 : 1 ≤ n) (h2 : n ≤ 16) (x : List Int) : (imgL n x).length = cycD n := by
  rw [imgL, List.length_map, (cyc_facts h1 h2).units]
theorem imgL_nat {n : Nat} (h1 : 1 ≤ n) (h2 : n ≤ 16) {x : List Int} (hx : GoodZ n x) : imgL n x = (unitsN n).map (imN n x) := by
  unfold imgL
  rw [(units_facts h1 h2).eqL, List.map_map]
  exact List.map_congr_left fun a _ => imT_nat h1 h2 hx a
theorem imgL_fair {n : Nat} (h1 : 1 ≤ n) (h2 : n ≤ 16) {x : List Int} (hx : GoodZ n x) : ∀ y ∈ imgL n x, FairZ n y := by
  intro y hy
  unfold imgL at hy
  obtain ⟨a, _, rfl⟩ := List.mem_map.1 hy
  exact imT_fair (cyc_facts h1 h2) h1 hx a
theorem norm2_zero {n : Int} {x : List Int} (h : (norm2 n x).2 = 0) : ∃ m : Nat, n = m ∧ 1 ≤ m ∧ m ≤ 16 ∧ GoodZ m x ∧ (norm2 n x).1 = nrm m x ∧ -1000000000 ≤ nrm m x ∧ nrm m x ≤ 1000000000 := by
  unfold norm2 at h ⊢
  split at h
  · rename_i c
    obtain ⟨m, rfl, h1, h2, h3, h4, h5⟩ := isC_x c
    rw [if_pos c]
    rw [Int.toNat_natCast] at h ⊢
    cases e : runO m (imgL m x) (oneT m) with
    | none => rw [e] at h; cases h
    | some R =>
      have g := runO_good _ _ _ (oneT_good m) e
      have hR := runO_prod _ _ _ e
      rw [imgL_nat h1 h2 h5, oneT_rat] at hR
      have hb := g.2 0 (by rw [g.1]; exact (cyc_facts h1 h2).pos)
      have e2 : rd R ((0 : Nat) : Int) = nrm m x := by rw [hR]; rfl
      rw [e2] at hb
      exact ⟨m, rfl, h1, h2, h5, e2, hb.1, hb.2⟩
  · cases h
theorem list_set0 {n : Nat} (h1 : 1 ≤ n) (h2 : n ≤ 16) : (List.replicate (cycD n) (0 : Int)).set 0 1 = oneT n := by
  have := (cyc_facts h1 h2).pos
  rw [tab_zero, tab_set, oneT]
  refine tab_congr fun m _ => ?_
  by_cases c : m = 0
  · rw [if_pos c.symm, if_pos c]
  · rw [if_neg (fun h => c h.symm), if_neg c]
theorem units_tab : ∀ n : Nat, 1 ≤ n → n ≤ 16 → ∀ (j : Nat) (A : Type) (z : A) (Φ : List Int → A), impl_unitsOf z (j + 100) (n : Int) Φ = Φ (unitsL (n : Int)) :=
  by16 (fun _ _ _ _ => by kernel_rfl) (fun _ _ _ _ => by kernel_rfl) (fun _ _ _ _ => by kernel_rfl) (fun _ _ _ _ => by kernel_rfl) (fun _ _ _ _ => by kernel_rfl) (fun _ _ _ _ => by kernel_rfl) (fun _ _ _ _ => by kernel_rfl) (fun _ _ _ _ => by kernel_rfl) (fun _ _ _ _ => by kernel_rfl) (fun _ _ _ _ => by kernel_rfl) (fun _ _ _ _ => by kernel_rfl) (fun _ _ _ _ => by kernel_rfl) (fun _ _ _ _ => by kernel_rfl) (fun _ _ _ _ => by kernel_rfl) (fun _ _ _ _ => by kernel_rfl) (fun _ _ _ _ => by kernel_rfl)
section
variable {A : Type} (z : A)
theorem unitsOf_eq {n : Nat} (h1 : 1 ≤ n) (h2 : n ≤ 16) (k : Nat) (hk : 100 ≤ k) (Φ : List Int → A) : impl_unitsOf z k (n : Int) Φ = Φ (unitsL (n : Int)) := by
  obtain ⟨j, rfl⟩ := le_ex hk
  exact units_tab n h1 h2 j A z Φ
theorem images_g4 {n : Nat} (h1 : 1 ≤ n) (h2 : n ≤ 16) {x : List Int} (hx : x.length ≤ 100) {U : List Int} (hU : ∀ a ∈ U, 1 ≤ a ∧ a ≤ 16) (hl : U.length ≤ 100) {K0 : List (List Int) → A} : ∀ (d i k : Nat) (acc : List (List Int)), i + d = U.length → acc.length = i → d + 140 ≤ k →
    impl_field_images.g4 z k (n : Int) (cycD n : Int) (cycP n) x (U.length : Int) (i : Int) acc U K0 = K0 (acc ++ (U.drop i).map fun a => imT n x a)
  | d, i, 0, acc, _, _, hk => absurd hk (by omega)
  | 0, i, k + 1, acc, hi, ha, hk => by
    rw [impl_field_images.g4, if_neg (by omega), List.drop_of_length_le (by omega), List.map_nil, List.append_nil]
  | d + 1, i, k + 1, acc, hi, ha, hk => by
    have hq : i < U.length := by omega
    have hm : U.getD i 0 ∈ U := by rw [getD_at hq]; exact List.getElem_mem _
    have hb := hU _ hm
    rw [impl_field_images.g4, if_pos (by omega), inI_at z hq, image_eq z h1 h2 hx (by omega) k (by omega), apI_ok z (by omega), w64_up (by omega), images_g4 h1 h2 hx hU hl d (i + 1) k _ (by omega) (by rw [List.length_append]; simp only [List.length_singleton]; omega) (by omega), drop_at U i (by omega), List.map_cons, List.append_assoc]
    rfl
theorem unitsL_bd {n : Nat} (h1 : 1 ≤ n) (h2 : n ≤ 16) : ∀ a ∈ unitsL (n : Int), 1 ≤ a ∧ a ≤ 16 := by
  intro a ha
  have := unit_range ha
  omega
theorem images_eq {n : Nat} (h1 : 1 ≤ n) (h2 : n ≤ 16) {x : List Int} (hx : x.length ≤ 100) (k : Nat) (hk : 300 ≤ k) (Φ : List (List Int) → A) : impl_field_images z k (n : Int) (cycD n : Int) (cycP n) x Φ = Φ (imgL n x) := by
  obtain ⟨k, rfl⟩ := le_ex (show 1 ≤ k by omega)
  have C := cyc_facts h1 h2
  have := C.units
  have := C.le12
  simp only [impl_field_images, step_succ]
  rw [unitsOf_eq z h1 h2 k (by omega)]
  exact images_g4 z h1 h2 hx (unitsL_bd h1 h2) (by omega) (unitsL (n : Int)).length 0 k [] (by omega) rfl (by omega)
theorem whole_eq {n : Nat} (h1 : 1 ≤ n) (h2 : n ≤ 16) (P : List (List Int)) (k : Nat) (hk : 1 ≤ k) (Φ : List Int → A) : impl_field_whole z k (n : Int) (cycD n : Int) P 1 Φ = Φ (oneT n) := by
  obtain ⟨k, rfl⟩ := le_ex hk
  have C := cyc_facts h1 h2
  have := C.pos
  have := C.le12
  simp only [impl_field_whole, step_succ]
  rw [mkI_at z (by omega), inI_0 z (by rw [List.length_replicate]; omega), list_set0 h1 h2]
theorem getD_rows {ys : List (List Int)} {i : Nat} (h : i < ys.length) : ys.getD i [] = ys[i] := by
  rw [List.getD_eq_getElem?_getD, List.getElem?_eq_getElem h, Option.getD_some]
theorem drop_rows {ys : List (List Int)} {i : Nat} (h : i < ys.length) : ys.drop i = ys.getD i [] :: ys.drop (i + 1) := by
  rw [getD_rows h, List.drop_eq_getElem_cons h]
theorem all_g4 {n : Nat} (h1 : 1 ≤ n) (h2 : n ≤ 16) {ys : List (List Int)} (hy : ∀ y ∈ ys, FairZ n y) (hl : ys.length ≤ 1000) {K0 : Bool → List Int → A} {K1 : List Int → A} : ∀ (d i k : Nat) (w : List Int), i + d = ys.length → GoodZ n w → d + 270 ≤ k →
    impl_field_all.g4 z k (n : Int) (cycD n : Int) (cycP n) ys (ys.length : Int) (i : Int) w K0 K1 = match runO n (ys.drop i) w with | some R => K1 R | none => K0 false []
  | d, i, 0, w, _, _, hk => absurd hk (by omega)
  | 0, i, k + 1, w, hi, hw, hk => by
    rw [impl_field_all.g4, if_neg (by omega), List.drop_of_length_le (by omega)]
    rfl
  | d + 1, i, k + 1, w, hi, hw, hk => by
    have hq : i < ys.length := by omega
    have hm : ys.getD i [] ∈ ys := by rw [getD_rows hq]; exact List.getElem_mem _
    obtain ⟨f1, f2⟩ := hy _ hm
    have C := cyc_facts h1 h2
    have := C.le12
    rw [impl_field_all.g4, if_pos (by omega), inI_at z hq, times_eq h1 h2 hw.2 (by rw [hw.1]; omega) f2 (by omega) z k (by omega), drop_rows hq]
    unfold runO mulO
    by_cases ho : okB n w (ys.getD i []) = true
    · have hb := smallL_tab.1 ho
      have e : (tab (cycD n) fun m => w64 (bil n w (ys.getD i []) m)) = tab (cycD n) (bil n w (ys.getD i [])) := tab_congr fun m hm => by have := hb m hm; exact w64_id (by omega) (by omega)
      rw [ho, Bool.not_true, cond_false, e, w64_up (by omega), if_pos rfl, all_g4 h1 h2 hy hl d (i + 1) k _ (by omega) ⟨tab_length _ _, smallL_within.1 ho⟩ (by omega)]
      rfl
    · rw [if_neg ho, show okB n w (ys.getD i []) = false by simpa using ho]
      rfl
theorem allOf_eq {n : Nat} (h1 : 1 ≤ n) (h2 : n ≤ 16) {ys : List (List Int)} (hy : ∀ y ∈ ys, FairZ n y) (hl : ys.length ≤ 1000) (k : Nat) (hk : 1300 ≤ k) (Φ : List Int → Bool → A) :
    impl_field_all z k (n : Int) (cycD n : Int) (cycP n) ys Φ = match runO n ys (oneT n) with | some R => Φ R true | none => Φ [] false := by
  obtain ⟨k, rfl⟩ := le_ex (show 1 ≤ k by omega)
  simp only [impl_field_all, step_succ]
  rw [whole_eq z h1 h2 _ k (by omega)]
  exact all_g4 z h1 h2 hy hl ys.length 0 k (oneT n) (by omega) (oneT_good n) (by omega)
theorem norm_eq {n : Nat} (h1 : 1 ≤ n) (h2 : n ≤ 16) {x : List Int} (hx : GoodZ n x) (k : Nat) (hk : 1400 ≤ k) (Φ : Int → Bool → A) :
    impl_field_norm z k (n : Int) (cycD n : Int) (cycP n) x Φ = match runO n (imgL n x) (oneT n) with | some R => Φ (rd R (0 : Nat)) true | none => Φ 0 false := by
  obtain ⟨k, rfl⟩ := le_ex (show 1 ≤ k by omega)
  have C := cyc_facts h1 h2
  have := C.le12
  have := C.pos
  simp only [impl_field_norm, step_succ]
  rw [images_eq z h1 h2 (by rw [hx.1]; omega) k (by omega), allOf_eq z h1 h2 (imgL_fair h1 h2 hx) (by rw [imgL_len h1 h2]; omega) k (by omega)]
  cases e : runO n (imgL n x) (oneT n) with
  | none => rfl
  | some R =>
    have g := runO_good _ _ _ (oneT_good n) e
    dsimp only
    rw [Bool.not_true, cond_false, inI_0 z (by rw [g.1]; omega)]
    rfl
theorem normOf_eq (n : Int) {x : List Int} (hx : x.length ≤ 1100000) (k : Nat) (hk : x.length + 1500 ≤ k) (Φ : Int → Int → A) : impl_NormOf z k n x Φ = Φ (norm2 n x).1 (norm2 n x).2 := by
  obtain ⟨k, rfl⟩ := le_ex (show 1 ≤ k by omega)
  simp only [impl_NormOf, step_succ]
  rw [isCyclo_eq z n hx k (by omega)]
  unfold norm2
  cases h : isC n x with
  | false => rfl
  | true =>
    obtain ⟨m, rfl, h1, h2, h3, h4, h5⟩ := isC_x h
    rw [Bool.not_true, cond_false, if_pos rfl, field_eq z h1 h2 k (by omega), norm_eq z h1 h2 h5 k (by omega), Int.toNat_natCast]
    cases runO m (imgL m x) (oneT m) <;> rfl
end
end Go.Proofs.Ytlpooghphoohcaa.F
/- Facts on the functions of places: values of polynomials at a root, powers. -/
namespace Go.Proofs.Ytlpooghphoohcaa.F
open Go.RowKit Go.Proofs.Ytlpooghphoohcaa.R
set_option linter.unusedVariables false
set_option linter.unusedSimpArgs false
/-- The value at r, modulo p. -/
def horn (p r : Nat) : List Int → Int
  | [] => 0
  | a :: t => (horn p r t * r + a.tmod p) % p
theorem horn_bd {p : Nat} (h1 : 1 ≤ p) (r : Nat) : ∀ x : List Int, 0 ≤ horn p r x ∧ horn p r x < p
  | [] => by unfold horn; omega
  | a :: t => by
    unfold horn
    exact ⟨Int.emod_nonneg _ (by omega), Int.emod_lt_of_pos _ (by omega)⟩
theorem horn_step {p r : Nat} (h1 : 1 ≤ p) (h2 : p ≤ 1000) (hr : r ≤ 1000) (x : List Int) (a : Int) : (0 ≤ horn p r x * r ∧ horn p r x * r ≤ 1000000) ∧ -1000 < a.tmod p ∧ a.tmod p < 1000 := by
  obtain ⟨b1, b2⟩ := horn_bd h1 r x
  have t := tmod_lt (a := a) (n := (p : Int)) (by omega)
  refine ⟨?_, by omega, by omega⟩
  have := mul_bd (i := 100) (a := 0) (by omega) (by omega)
  obtain ⟨m, hm⟩ : ∃ m : Nat, horn p r x = m := ⟨(horn p r x).toNat, by omega⟩
  rw [hm, ← Int.natCast_mul]
  have := Nat.mul_le_mul (show m ≤ 1000 by omega) hr
  omega
section
variable {A : Type} (z : A)
end
end Go.Proofs.Ytlpooghphoohcaa.F
/- Facts on the functions of places: powers. -/
namespace Go.Proofs.Ytlpooghphoohcaa.F
open Go.RowKit Go.Proofs.Ytlpooghphoohcaa.R
set_option linter.unusedVariables false
set_option linter.unusedSimpArgs false
theorem tmodN (m n : Nat) : Int.tmod (m : Int) (n : Int) = ((m % n : Nat) : Int) := by rw [Int.tmod_eq_emod_of_nonneg (by omega)]; rfl
theorem tdivN (m n : Nat) : Int.tdiv (m : Int) (n : Int) = ((m / n : Nat) : Int) := by rw [Int.tdiv_eq_ediv_of_nonneg (by omega)]; rfl
theorem pow_odd {p b c e : Nat} (h : e % 2 = 1) : (c * b % p) * (b * b % p) ^ (e / 2) % p = c * b ^ e % p := by
  have he : e = 2 * (e / 2) + 1 := by omega
  rw [Nat.mul_mod, Nat.mod_mod, ← Nat.pow_mod, ← Nat.mul_mod]
  congr 1
  rw [← Nat.pow_two, ← Nat.pow_mul, Nat.mul_assoc, Nat.mul_comm b, ← Nat.pow_succ]
  rw [show (2 * (e / 2)).succ = e by omega]
theorem pow_even {p b c e : Nat} (h : ¬ e % 2 = 1) : c * (b * b % p) ^ (e / 2) % p = c * b ^ e % p := by
  have he : e = 2 * (e / 2) := by omega
  rw [Nat.mul_mod, ← Nat.pow_mod, ← Nat.mul_mod]
  congr 1
  rw [← Nat.pow_two, ← Nat.pow_mul, ← he]
section
variable {A : Type} (z : A)
theorem power_g {p : Nat} (h1 : 1 ≤ p) (h2 : p ≤ 1000) {K0 : Int → A} : ∀ (k e b c : Nat), e ≤ 1000000 → e + 1 ≤ k → b < p → c < p →
    impl_power.g4 z k (b : Int) (e : Int) (p : Int) (c : Int) K0 = K0 ((c * b ^ e % p : Nat) : Int)
  | 0, e, b, c, _, hk, _, _ => absurd hk (by omega)
  | k + 1, e, b, c, he, hk, hb, hc => by
    rw [impl_power.g4]
    by_cases h0 : 0 < e
    · have bb : b * b ≤ 1000 * 1000 := Nat.mul_le_mul (by omega) (by omega)
      have cb : c * b ≤ 1000 * 1000 := Nat.mul_le_mul (by omega) (by omega)
      rw [if_pos (by omega), show (2 : Int) = ((2 : Nat) : Int) from rfl, tmodN, tdivN, ← Int.natCast_mul, ← Int.natCast_mul, w64_id (x := ((b * b : Nat) : Int)) (by omega) (by omega), w64_id (x := ((c * b : Nat) : Int)) (by omega) (by omega), w64_id (x := ((e / 2 : Nat) : Int)) (by omega) (by omega), tmodN, tmodN]
      by_cases h : e % 2 = 1
      · rw [if_pos (by omega), gd_ok z (by omega), gd_ok z (by omega), power_g h1 h2 k (e / 2) _ _ (by omega) (by omega) (Nat.mod_lt _ h1) (Nat.mod_lt _ h1), pow_odd h]
      · rw [if_neg (by omega), gd_ok z (by omega), power_g h1 h2 k (e / 2) _ _ (by omega) (by omega) (Nat.mod_lt _ h1) hc, pow_even h]
    · have : e = 0 := by omega
      subst this
      rw [if_neg (by omega), Nat.pow_zero, Nat.mul_one, Nat.mod_eq_of_lt hc]
theorem power_eq {p : Nat} (h1 : 1 ≤ p) (h2 : p ≤ 1000) (b e : Nat) (he : e ≤ 1000000) (k : Nat) (hk : e + 3 ≤ k) (Φ : Int → A) : impl_power z k (b : Int) (e : Int) (p : Int) Φ = Φ ((b ^ e % p : Nat) : Int) := by
  obtain ⟨k, rfl⟩ := le_ex (show 2 ≤ k by omega)
  simp only [impl_power, step_succ]
  rw [gd_ok z (by omega), around_eq z _ (by omega) (by omega), ← Int.natCast_emod, show (1 : Int) = ((1 : Nat) : Int) from rfl, tmodN, power_g z h1 h2 _ e _ _ he (by omega) (Nat.mod_lt _ h1) (Nat.mod_lt _ h1)]
  congr 2
  rw [Nat.mul_mod, Nat.mod_mod, ← Nat.pow_mod, ← Nat.mul_mod, Nat.one_mul]
end
end Go.Proofs.Ytlpooghphoohcaa.F
/- Facts on the functions of places: primes, roots. -/
namespace Go.Proofs.Ytlpooghphoohcaa.F
open Go.RowKit Go.Proofs.Ytlpooghphoohcaa.R
set_option linter.unusedVariables false
set_option linter.unusedSimpArgs false
def noDiv (p : Nat) : Nat → Nat → Bool
  | 0, _ => true
  | d + 1, q => if q * q ≤ p then (if p % q = 0 then false else noDiv p d (q + 1)) else true
def isP (p : Nat) : Bool := decide (3 ≤ p ∧ p ≤ 61) && noDiv p p 2
def rootsFrom (F : List Int) (p : Nat) : Nat → Nat → List Int
  | 0, _ => []
  | d + 1, r => if horn p r F = 0 then (r : Int) :: rootsFrom F p d (r + 1) else rootsFrom F p d (r + 1)
theorem rootsFrom_length (F : List Int) (p : Nat) : ∀ d r, (rootsFrom F p d r).length ≤ d
  | 0, r => Nat.le_refl _
  | d + 1, r => by
    have := rootsFrom_length F p d (r + 1)
    unfold rootsFrom
    split
    · rw [List.length_cons]; omega
    · omega
section
variable {A : Type} (z : A)
theorem isPrime_g {p : Nat} (hp : p ≤ 1000) {K0 : Bool → A} {K1 : A} : ∀ (d q k : Nat), q + d = p + 2 → 2 ≤ q → d + 1 ≤ k →
    impl_isPrime.g3 z k (p : Int) (q : Int) K0 K1 = bif noDiv p d q then K1 else K0 false
  | d, q, 0, _, _, hk => absurd hk (by omega)
  | 0, q, k + 1, hq, h2, hk => by
    have hq2 : 2 * q ≤ q * q := Nat.mul_le_mul_right q h2
    have hq3 : q * q ≤ 1002 * 1002 := Nat.mul_le_mul (by omega) (by omega)
    rw [impl_isPrime.g3, ← Int.natCast_mul, w64_id (by omega) (by omega), if_neg (by omega)]
    rfl
  | d + 1, q, k + 1, hq, h2, hk => by
    have hq3 : q * q ≤ 1002 * 1002 := Nat.mul_le_mul (by omega) (by omega)
    rw [impl_isPrime.g3, ← Int.natCast_mul, w64_id (by omega) (by omega), noDiv]
    by_cases c : q * q ≤ p
    · rw [if_pos (by omega), if_pos c, gd_ok z (by omega), tmodN]
      by_cases e : p % q = 0
      · rw [if_pos (by omega), if_pos e]; rfl
      · rw [if_neg (by omega), if_neg e, w64_up (by omega), isPrime_g hp d (q + 1) k (by omega) (by omega) (by omega)]
    · rw [if_neg (by omega), if_neg c]; rfl
theorem isPrime_eq {p : Nat} (hp : p ≤ 1000) (k : Nat) (hk : p + 5 ≤ k) (Φ : Bool → A) : impl_isPrime z k (p : Int) Φ = Φ (isP p) := by
  obtain ⟨k, rfl⟩ := le_ex (show 2 ≤ k by omega)
  simp only [impl_isPrime, step_succ]
  have h := isPrime_g z hp (K0 := Φ) (K1 := impl_within z (k + 1) (p : Int) 3 61 Φ) p 2 (k + 1) (by omega) (by omega) (by omega)
  refine Eq.trans h ?_
  rw [within_eq]
  unfold isP
  rw [show decide ((3 : Int) ≤ (p : Int) ∧ (p : Int) ≤ 61) = decide (3 ≤ p ∧ p ≤ 61) by
    by_cases c : 3 ≤ p ∧ p ≤ 61
    · rw [decide_eq_true c, decide_eq_true (by omega)]
    · rw [decide_eq_false c, decide_eq_false (by omega)]]
  cases noDiv p p 2 <;> simp
theorem prime03_g {p : Nat} (hp : p ≤ 1000) {K0 : Bool → A} {K1 : A} : ∀ (d q k : Nat), q + d = p + 2 → 2 ≤ q → d + 1 ≤ k →
    spec_l03Prime.g6 z k (p : Int) (q : Int) K0 K1 = bif noDiv p d q then K1 else K0 false
  | d, q, 0, _, _, hk => absurd hk (by omega)
  | 0, q, k + 1, hq, h2, hk => by
    have hq2 : 2 * q ≤ q * q := Nat.mul_le_mul_right q h2
    have hq3 : q * q ≤ 1002 * 1002 := Nat.mul_le_mul (by omega) (by omega)
    rw [spec_l03Prime.g6, ← Int.natCast_mul, w64_id (by omega) (by omega), if_neg (by omega)]
    rfl
  | d + 1, q, k + 1, hq, h2, hk => by
    have hq3 : q * q ≤ 1002 * 1002 := Nat.mul_le_mul (by omega) (by omega)
    rw [spec_l03Prime.g6, ← Int.natCast_mul, w64_id (by omega) (by omega), noDiv]
    by_cases c : q * q ≤ p
    · rw [if_pos (by omega), if_pos c, gd_ok z (by omega), tmodN]
      by_cases e : p % q = 0
      · rw [if_pos (by omega), if_pos e]; rfl
      · rw [if_neg (by omega), if_neg e, w64_up (by omega), prime03_g hp d (q + 1) k (by omega) (by omega) (by omega)]
    · rw [if_neg (by omega), if_neg c]; rfl
theorem prime03_eq {p : Nat} (hp : p ≤ 1000) (k : Nat) (hk : p + 5 ≤ k) (Φ : Bool → A) : spec_l03Prime z k (p : Int) Φ = Φ (isP p) := by
  obtain ⟨k, rfl⟩ := le_ex (show 2 ≤ k by omega)
  simp only [spec_l03Prime, step_succ]
  rw [in_eq]
  unfold isP
  by_cases c : 3 ≤ p ∧ p ≤ 61
  · rw [decide_eq_true c, decide_eq_true (show (3 : Int) ≤ (p : Int) ∧ (p : Int) ≤ 61 by omega), Bool.not_true, cond_false, Bool.true_and]
    have h := prime03_g z hp (K0 := Φ) (K1 := Φ true) p 2 (k + 1) (by omega) (by omega) (by omega)
    refine Eq.trans h ?_
    cases noDiv p p 2 <;> rfl
  · rw [decide_eq_false c, decide_eq_false (show ¬ ((3 : Int) ≤ (p : Int) ∧ (p : Int) ≤ 61) by omega)]
    rfl
end
end Go.Proofs.Ytlpooghphoohcaa.F
/- Characters, plain: indices by primes, powers of roots of unity, sums of them. -/
namespace Go.Proofs.Ytlpooghphoohcaa.F
open Go.RowKit Go.Proofs.Ytlpooghphoohcaa.R
set_option linter.unusedVariables false
set_option linter.unusedSimpArgs false
def idxL : Nat → List Int
  | 3 => [-1, 0, 1]
  | 5 => [-1, 0, 1, 3, 2]
  | 7 => [-1, 0, 2, 1, 4, 5, 3]
  | 11 => [-1, 0, 1, 8, 2, 4, 9, 7, 3, 6, 5]
  | 13 => [-1, 0, 1, 4, 2, 9, 5, 11, 3, 8, 10, 7, 6]
  | 17 => [-1, 0, 14, 1, 12, 5, 15, 11, 10, 2, 3, 7, 13, 4, 9, 6, 8]
  | 19 => [-1, 0, 1, 13, 2, 16, 14, 6, 3, 8, 17, 12, 15, 5, 7, 11, 4, 10, 9]
  | 23 => [-1, 0, 2, 16, 4, 1, 18, 19, 6, 10, 3, 9, 20, 14, 21, 17, 8, 7, 12, 15, 5, 13, 11]
  | 29 => [-1, 0, 1, 5, 2, 22, 6, 12, 3, 10, 23, 25, 7, 18, 13, 27, 4, 21, 11, 9, 24, 17, 26, 20, 8, 16, 19, 15, 14]
  | 31 => [-1, 0, 24, 1, 18, 20, 25, 28, 12, 2, 14, 23, 19, 11, 22, 21, 6, 7, 26, 4, 8, 29, 17, 27, 13, 10, 5, 3, 16, 9, 15]
  | 37 => [-1, 0, 1, 26, 2, 23, 27, 32, 3, 16, 24, 30, 28, 11, 33, 13, 4, 7, 17, 35, 25, 22, 31, 15, 29, 10, 12, 6, 34, 21, 14, 9, 5, 20, 8, 19, 18]
  | 41 => [-1, 0, 26, 15, 12, 22, 1, 39, 38, 30, 8, 3, 27, 31, 25, 37, 24, 33, 16, 9, 34, 14, 29, 36, 13, 4, 17, 5, 11, 7, 23, 28, 10, 18, 19, 21, 2, 32, 35, 6, 20]
  | 43 => [-1, 0, 27, 1, 12, 25, 28, 35, 39, 2, 10, 30, 13, 32, 20, 26, 24, 38, 29, 19, 37, 36, 15, 16, 40, 8, 17, 3, 5, 41, 11, 34, 9, 31, 23, 18, 14, 7, 4, 33, 22, 6, 21]
  | 47 => [-1, 0, 18, 20, 36, 1, 38, 32, 8, 40, 19, 7, 10, 11, 4, 21, 26, 16, 12, 45, 37, 6, 25, 5, 28, 2, 29, 14, 22, 35, 39, 3, 44, 27, 34, 33, 30, 42, 17, 31, 9, 15, 24, 13, 43, 41, 23]
  | 53 => [-1, 0, 1, 17, 2, 47, 18, 14, 3, 34, 48, 6, 19, 24, 15, 12, 4, 10, 35, 37, 49, 31, 7, 39, 20, 42, 25, 51, 16, 46, 13, 33, 5, 23, 11, 9, 36, 30, 38, 41, 50, 45, 32, 22, 8, 29, 40, 44, 21, 28, 43, 27, 26]
  | 59 => [-1, 0, 1, 50, 2, 6, 51, 18, 3, 42, 7, 25, 52, 45, 19, 56, 4, 40, 43, 38, 8, 10, 26, 15, 53, 12, 46, 34, 20, 28, 57, 49, 5, 17, 41, 24, 44, 55, 39, 37, 9, 14, 11, 33, 27, 48, 16, 23, 54, 36, 13, 32, 47, 22, 35, 31, 21, 30, 29]
  | 61 => [-1, 0, 1, 6, 2, 22, 7, 49, 3, 12, 23, 15, 8, 40, 50, 28, 4, 47, 13, 26, 24, 55, 16, 57, 9, 44, 41, 18, 51, 35, 29, 59, 5, 21, 48, 11, 14, 39, 27, 46, 25, 54, 56, 43, 17, 34, 58, 20, 10, 38, 45, 53, 42, 33, 19, 37, 52, 32, 36, 31, 30]
  | _ => []
def rootT : Nat → Nat
  | 3 => 2
  | 5 => 2
  | 7 => 3
  | 11 => 2
  | 13 => 2
  | 17 => 3
  | 19 => 2
  | 23 => 5
  | 29 => 2
  | 31 => 3
  | 37 => 2
  | 41 => 6
  | 43 => 3
  | 47 => 5
  | 53 => 2
  | 59 => 2
  | 61 => 2
  | _ => 1
def primesN : List Nat := [3, 5, 7, 11, 13, 17, 19, 23, 29, 31, 37, 41, 43, 47, 53, 59, 61]
theorem isP_list : ((List.range 62).all fun p => !isP p || primesN.contains p) = true := by decide +kernel
theorem byP {P : Nat → Prop} (h3 : P 3) (h5 : P 5) (h7 : P 7) (h11 : P 11) (h13 : P 13) (h17 : P 17) (h19 : P 19) (h23 : P 23) (h29 : P 29) (h31 : P 31) (h37 : P 37) (h41 : P 41) (h43 : P 43) (h47 : P 47) (h53 : P 53) (h59 : P 59) (h61 : P 61) : ∀ p : Nat, isP p = true → P p := by
  intro p hp
  have hb : p < 62 := by
    unfold isP at hp
    simp only [Bool.and_eq_true, decide_eq_true_eq] at hp
    omega
  have h := List.all_eq_true.1 isP_list p (List.mem_range.2 hb)
  rw [hp] at h
  have h : p ∈ primesN := by simpa using h
  unfold primesN at h
  simp only [List.mem_cons, List.not_mem_nil, or_false] at h
  rcases h with rfl | rfl | rfl | rfl | rfl | rfl | rfl | rfl | rfl | rfl | rfl | rfl | rfl | rfl | rfl | rfl | rfl
  · exact h3
  · exact h5
  · exact h7
  · exact h11
  · exact h13
  · exact h17
  · exact h19
  · exact h23
  · exact h29
  · exact h31
  · exact h37
  · exact h41
  · exact h43
  · exact h47
  · exact h53
  · exact h59
  · exact h61
/-- The index of a number that p does not divide. -/
def ix (p x : Nat) : Nat := (rd (idxL p) (x : Int)).toNat
def idxOk (p : Nat) : Bool := decide ((idxL p).length = p) && (decide (rd (idxL p) (0 : Nat) = -1) && ((List.range p).all fun x => decide (x = 0) || (decide (rd (idxL p) (x : Nat) = ix p x) && (decide (ix p x < p - 1) && (decide (rootT p ^ ix p x % p = x) && (List.range (ix p x)).all fun j => decide (rootT p ^ j % p ≠ x))))))
theorem idx_all : ((List.range 62).all fun p => !isP p || idxOk p) = true := by decide +kernel
theorem isP_bd1 {p : Nat} (hp : isP p = true) : 3 ≤ p ∧ p ≤ 61 := by
  unfold isP at hp
  simp only [Bool.and_eq_true, decide_eq_true_eq] at hp
  exact hp.1
structure IdxFacts (p : Nat) : Prop where
  len : (idxL p).length = p
  zero : rd (idxL p) (0 : Nat) = -1
  rd : ∀ x, 1 ≤ x → x < p → rd (idxL p) (x : Nat) = ix p x
  lt : ∀ x, 1 ≤ x → x < p → ix p x < p - 1
  pow : ∀ x, 1 ≤ x → x < p → rootT p ^ ix p x % p = x
  least : ∀ x, 1 ≤ x → x < p → ∀ j, j < ix p x → rootT p ^ j % p ≠ x
theorem idx_facts {p : Nat} (hp : isP p = true) : IdxFacts p := by
  have hb := isP_bd1 hp
  have h := List.all_eq_true.1 idx_all p (List.mem_range.2 (by omega))
  rw [hp] at h
  simp only [Bool.not_true, Bool.false_or, idxOk, Bool.and_eq_true, decide_eq_true_eq] at h
  obtain ⟨h1, h2, h3⟩ := h
  have h4 : ∀ x, 1 ≤ x → x < p → (F.rd (idxL p) (x : Nat) = ix p x ∧ ix p x < p - 1 ∧ rootT p ^ ix p x % p = x ∧ ∀ j, j < ix p x → rootT p ^ j % p ≠ x) := by
    intro x h1 h2
    have h := List.all_eq_true.1 h3 x (List.mem_range.2 h2)
    rw [decide_eq_false (show ¬ x = 0 by omega), Bool.false_or] at h
    simp only [Bool.and_eq_true, decide_eq_true_eq] at h
    refine ⟨h.1, h.2.1, h.2.2.1, fun j hj => ?_⟩
    exact of_decide_eq_true (List.all_eq_true.1 h.2.2.2 j (List.mem_range.2 hj))
  exact ⟨h1, h2, fun x a b => (h4 x a b).1, fun x a b => (h4 x a b).2.1, fun x a b => (h4 x a b).2.2.1, fun x a b => (h4 x a b).2.2.2⟩
/-! ### Characters -/
def prB (p : Int) : Bool := decide (0 ≤ p) && isP p.toNat
theorem prB_nat {p : Int} (h : prB p = true) : ∃ q : Nat, p = q ∧ isP q = true := by
  simp only [prB, Bool.and_eq_true, decide_eq_true_eq] at h
  exact ⟨p.toNat, by omega, h.2⟩
theorem prB_of {p : Nat} (h : isP p = true) : prB (p : Int) = true := by
  simp only [prB, Bool.and_eq_true, decide_eq_true_eq, Int.toNat_natCast]
  exact ⟨by omega, h⟩
def isCh (p n k : Int) : Bool := prB p && ((decide (1 ≤ n ∧ n ≤ 16) && decide ((p - 1).tmod n = 0)) && decide (0 ≤ k ∧ k ≤ n - 1))
structure Ch (p n k : Nat) : Prop where
  pr : isP p = true
  n1 : 1 ≤ n
  n2 : n ≤ 16
  dvd : (p - 1) % n = 0
  lt : k < n
theorem isCh_nat {p n k : Int} (h : isCh p n k = true) : ∃ p' n' k' : Nat, p = p' ∧ n = n' ∧ k = k' ∧ Ch p' n' k' := by
  simp only [isCh, Bool.and_eq_true, decide_eq_true_eq] at h
  obtain ⟨h1, ⟨h2, h3⟩, h4⟩ := h
  obtain ⟨q, rfl, hq⟩ := prB_nat h1
  have hb := isP_bd1 hq
  refine ⟨q, n.toNat, k.toNat, rfl, by omega, by omega, hq, by omega, by omega, ?_, by omega⟩
  rw [show n = ((n.toNat : Nat) : Int) by omega, show (q : Int) - 1 = ((q - 1 : Nat) : Int) by omega, tmodN] at h3
  omega
theorem isCh_of {p n k : Nat} (h : Ch p n k) : isCh p n k = true := by
  have hb := isP_bd1 h.pr
  have := h.n1
  have := h.n2
  have := h.lt
  simp only [isCh, Bool.and_eq_true, decide_eq_true_eq]
  refine ⟨prB_of h.pr, ⟨by omega, ?_⟩, by omega⟩
  rw [show (p : Int) - 1 = ((p - 1 : Nat) : Int) by omega, tmodN, h.dvd]
  rfl
/-- The exponent at a number that p does not divide. -/
def exN (p n k x : Nat) : Nat := ix p x * k % n
/-- All exponents, -1 for 0. -/
def exL (p n k : Nat) : List Int := tab p fun x => if x = 0 then -1 else (exN p n k x : Int)
theorem exL_len (p n k : Nat) : (exL p n k).length = p := tab_length _ _
theorem exL_rd {p n k x : Nat} (hx : x < p) : rd (exL p n k) (x : Nat) = if x = 0 then -1 else (exN p n k x : Int) := tab_rd _ _ _ hx
theorem exN_lt {p n k x : Nat} (h1 : 1 ≤ n) : exN p n k x < n := Nat.mod_lt _ (by omega)
/-! ### Powers of z -/
def zT (n e : Nat) : List Int := tab (cycD n) fun m => cycW n m e
def nilT (n : Nat) : List Int := tab (cycD n) fun _ => 0
theorem zT_len (n e : Nat) : (zT n e).length = cycD n := tab_length _ _
theorem nilT_len (n : Nat) : (nilT n).length = cycD n := tab_length _ _
theorem zT_rd {n e m : Nat} (hm : m < cycD n) : rd (zT n e) (m : Nat) = cycW n m e := tab_rd _ _ _ hm
theorem zT_mod (n e : Nat) : zT n (e % n) = zT n e := tab_congr fun m _ => cycW_mod n m e
theorem zT_one {n : Nat} (h1 : 1 ≤ n) (h2 : n ≤ 16) (e : Nat) : within 1 (zT n e) := by
  intro j hj
  rw [zT_len] at hj
  rw [zT_rd hj]
  exact cycW_small (cyc_facts h1 h2) h1 j e
theorem zT_good {n : Nat} (h1 : 1 ≤ n) (h2 : n ≤ 16) (e : Nat) : GoodZ n (zT n e) :=
  ⟨zT_len n e, fun j hj => by have := zT_one h1 h2 e j hj; omega⟩
theorem nilT_good (n : Nat) : GoodZ n (nilT n) :=
  ⟨nilT_len n, fun j hj => by
    rw [nilT_len] at hj
    rw [nilT, tab_rd _ _ _ hj]
    omega⟩
theorem zT_bil {n : Nat} (h1 : 1 ≤ n) (h2 : n ≤ 16) (a b m : Nat) (hm : m < cycD n) : bil n (zT n a) (zT n b) m = cycW n m (a + b) := by
  unfold bil
  rw [zT_len, zT_len]
  have e : ∀ i, i < cycD n → sumF 0 (cycD n) (fun k => rd (zT n b) k * cycW n m (i + k)) = cycW n m (i + b) := by
    intro i hi
    rw [sumF_congr (g := fun k => cycW n k b * cycW n m (k + i)) _ 0 (fun k _ hk => by rw [zT_rd (by omega), Nat.add_comm i k]), cyc_mul h1 h2 b i m hm, Nat.add_comm]
  rw [sumF_congr (g := fun i => cycW n i a * cycW n m (i + b)) _ 0 (fun i _ hi => by rw [zT_rd (by omega), e i (by omega)]), cyc_mul h1 h2 a b m hm]
theorem zT_mul {n : Nat} (h1 : 1 ≤ n) (h2 : n ≤ 16) (a b : Nat) : tab (cycD n) (bil n (zT n a) (zT n b)) = zT n (a + b) := tab_congr fun m hm => zT_bil h1 h2 a b m hm
theorem zT_ok {n : Nat} (h1 : 1 ≤ n) (h2 : n ≤ 16) (a b : Nat) : okB n (zT n a) (zT n b) = true := by
  unfold okB
  rw [zT_mul h1 h2]
  exact good_small (zT_good h1 h2 _)
theorem zT_mulO {n : Nat} (h1 : 1 ≤ n) (h2 : n ≤ 16) (a b : Nat) : mulO n (zT n a) (zT n b) = some (zT n (a + b)) := by
  unfold mulO
  rw [if_pos (zT_ok h1 h2 a b), zT_mul h1 h2]
theorem zT_bar {n : Nat} (h1 : 1 ≤ n) (h2 : n ≤ 16) (e : Nat) : imT n (zT n e) (-1) = zT n (e * (n - 1)) := by
  rw [imT_neg h1, imT_nat h1 h2 (zT_good h1 h2 e)]
  refine tab_congr fun m hm => ?_
  unfold galN
  rw [zT_len, sumF_congr (g := fun i => cycW n i e * cycW n m (i * (n - 1))) _ 0 (fun i _ hi => by rw [zT_rd (by omega)]), cyc_gal h1 h2 (n - 1) (neg_tab n h1 h2).1 e m hm]
theorem nilT_bil {n : Nat} (x : List Int) (m : Nat) : bil n (nilT n) x m = 0 := by
  unfold bil
  refine (sumF_congr _ 0 fun i _ hi => ?_).trans (sumF_zero _ 0)
  rw [nilT_len] at hi
  rw [nilT, tab_rd _ _ _ (by omega), Int.zero_mul]
theorem nilT_bar {n : Nat} (h1 : 1 ≤ n) (h2 : n ≤ 16) : imT n (nilT n) (-1) = nilT n := by
  rw [imT_neg h1, imT_nat h1 h2 (nilT_good n)]
  refine tab_congr fun m hm => ?_
  unfold galN
  refine (sumF_congr _ 0 fun i _ hi => ?_).trans (sumF_zero _ 0)
  rw [nilT_len] at hi
  rw [nilT, tab_rd _ _ _ (by omega), Int.zero_mul]
/-- A list by what it tells against weights. -/
theorem acc_tab {D : Nat} {X : List Int} {S : (Nat → Int) → Int} (hl : X.length = D) (hw : Wrapped X) (h : ∀ w, Cg (dot X w) (S w)) : X = tab D fun m => wrap64 (S fun j => if m = j then 1 else 0) :=
  tab_ext hl fun m hm => by
    have := (h fun j => if m = j then 1 else 0).eq
    rw [dot_one X m (by omega), hw m (by omega)] at this
    exact this
theorem dot_zT {n e : Nat} {w : Nat → Int} : dot (zT n e) w = sumF 0 (cycD n) fun m => cycW n m e * w m := by
  unfold dot
  rw [zT_len]
  exact sumF_congr _ 0 fun m _ hm => by rw [zT_rd (by omega)]
/-- A sum of powers, of each exponent so many, against weights. -/
def chW (p n k : Nat) (T : Nat → Int) (w : Nat → Int) : Int := sumF 1 (p - 1) fun x => T x * w (exN p n k x)
/-- The sum of numbers times the values of a character. -/
def chT (p n k : Nat) (T : Nat → Int) : List Int := tab (cycD n) fun m => wrap64 (chW p n k T (cycW n m))
theorem chT_len (p n k : Nat) (T : Nat → Int) : (chT p n k T).length = cycD n := tab_length _ _
end Go.Proofs.Ytlpooghphoohcaa.F
/- Characters by both sides: primes, orders, indices, exponents, values. -/
namespace Go.Proofs.Ytlpooghphoohcaa.F
open Go.RowKit Go.Proofs.Ytlpooghphoohcaa.R
set_option linter.unusedVariables false
set_option linter.unusedSimpArgs false
/-- Numbers at which the test for a prime is quick. -/
def PrOk (p : Int) : Prop := p ≤ 1000 ∨ p % 2 = 0
section
variable {A : Type} (z : A)
theorem isPrimeI_eq {p : Int} (h : PrOk p) (k : Nat) (hk : 1010 ≤ k) (Φ : Bool → A) : impl_isPrime z k p Φ = Φ (prB p) := by
  by_cases c0 : 0 ≤ p
  · by_cases c1 : p ≤ 1000
    · obtain ⟨q, rfl⟩ := Int.eq_ofNat_of_zero_le c0
      rw [isPrime_eq z (by omega) k (by omega)]
      congr 1
    · have h2 : p % 2 = 0 := h.resolve_left c1
      have e : prB p = false := by
        unfold prB isP
        rw [decide_eq_false (show ¬ (3 ≤ p.toNat ∧ p.toNat ≤ 61) by omega), Bool.false_and, Bool.and_false]
      obtain ⟨k, rfl⟩ := le_ex (show 2 ≤ k by omega)
      simp only [impl_isPrime, step_succ]
      rw [impl_isPrime.g3, w64_id (by omega) (by omega), if_pos (by omega), gd_ok z (by omega), if_pos (tmod_zero.2 h2), e]
  · have e : prB p = false := by
      unfold prB
      rw [decide_eq_false c0, Bool.false_and]
    obtain ⟨k, rfl⟩ := le_ex (show 2 ≤ k by omega)
    simp only [impl_isPrime, step_succ]
    rw [impl_isPrime.g3, w64_id (by omega) (by omega), if_neg (by omega), within_eq, decide_eq_false (by omega), e]
theorem prime03I_eq (p : Int) (k : Nat) (hk : 1010 ≤ k) (Φ : Bool → A) : spec_l03Prime z k p Φ = Φ (prB p) := by
  by_cases c : 3 ≤ p ∧ p ≤ 61
  · obtain ⟨q, rfl⟩ := Int.eq_ofNat_of_zero_le (show 0 ≤ p by omega)
    rw [prime03_eq z (by omega) k (by omega)]
    congr 1
  · obtain ⟨k, rfl⟩ := le_ex (show 2 ≤ k by omega)
    simp only [spec_l03Prime, step_succ]
    rw [in_eq, decide_eq_false c, Bool.not_false, cond_true]
    congr 1
    unfold prB isP
    by_cases c0 : 0 ≤ p
    · rw [decide_eq_false (show ¬ (3 ≤ p.toNat ∧ p.toNat ≤ 61) by omega), Bool.false_and, Bool.and_false]
    · rw [decide_eq_false c0, Bool.false_and]
theorem prB_bd {p : Int} (h : prB p = true) : 3 ≤ p ∧ p ≤ 61 := by
  obtain ⟨q, rfl, hq⟩ := prB_nat h
  have := isP_bd1 hq
  omega
theorem areOf_eq {p : Int} (h : PrOk p) (n : Int) (k : Nat) (hk : 1012 ≤ k) (Φ : Bool → A) : impl_areOf z k p n Φ = Φ (prB p && (decide (1 ≤ n ∧ n ≤ 16) && decide ((p - 1).tmod n = 0))) := by
  obtain ⟨k, rfl⟩ := le_ex (show 3 ≤ k by omega)
  simp only [impl_areOf, step_succ]
  rw [isPrimeI_eq z h _ (by omega)]
  cases e : prB p with
  | false => rfl
  | true =>
    have := prB_bd e
    rw [cond_true, isOrder_eq, Bool.true_and]
    by_cases c : 1 ≤ n ∧ n ≤ 16
    · rw [decide_eq_true c, cond_true, gd_ok z (by omega), w64_id (by omega) (by omega), Bool.true_and]
    · rw [decide_eq_false c]; rfl
theorem isCharacter_eq {p : Int} (h : PrOk p) (n x : Int) (k : Nat) (hk : 1013 ≤ k) (Φ : Bool → A) : impl_IsCharacter z k p n x Φ = Φ (isCh p n x) := by
  obtain ⟨k, rfl⟩ := le_ex (show 2 ≤ k by omega)
  simp only [impl_IsCharacter, step_succ]
  rw [areOf_eq z h n _ (by omega)]
  unfold isCh
  cases prB p with
  | false => rfl
  | true =>
    simp only [Bool.true_and]
    by_cases c : 1 ≤ n ∧ n ≤ 16
    · rw [decide_eq_true c, Bool.true_and]
      cases decide ((p - 1).tmod n = 0) with
      | false => rfl
      | true => rw [cond_true, within_eq, w64_id (by omega) (by omega), Bool.true_and]
    · rw [decide_eq_false c]; rfl
theorem order03_eq {p : Int} (hp : 3 ≤ p ∧ p ≤ 61) (n : Int) (k : Nat) (hk : 3 ≤ k) (Φ : Bool → A) : spec_l03Order z k p n Φ = Φ (decide (1 ≤ n ∧ n ≤ 16) && decide ((p - 1).tmod n = 0)) := by
  obtain ⟨k, rfl⟩ := le_ex (show 2 ≤ k by omega)
  simp only [spec_l03Order, step_succ]
  rw [in_eq]
  by_cases c : 1 ≤ n ∧ n ≤ 16
  · rw [decide_eq_true c, cond_true, gd_ok z (by omega), w64_id (by omega) (by omega), Bool.true_and]
  · rw [decide_eq_false c]; rfl
theorem is03_eq (p n x : Int) (k : Nat) (hk : 1013 ≤ k) (Φ : Bool → A) : spec_l03Is z k p n x Φ = Φ (isCh p n x) := by
  obtain ⟨k, rfl⟩ := le_ex (show 2 ≤ k by omega)
  simp only [spec_l03Is, step_succ]
  rw [prime03I_eq z p _ (by omega)]
  unfold isCh
  cases e : prB p with
  | false => rfl
  | true =>
    have := prB_bd e
    rw [cond_true, order03_eq z this n _ (by omega)]
    simp only [Bool.true_and]
    by_cases c : 1 ≤ n ∧ n ≤ 16
    · rw [decide_eq_true c, Bool.true_and]
      cases decide ((p - 1).tmod n = 0) with
      | false => rfl
      | true => rw [cond_true, in_eq, w64_id (by omega) (by omega), Bool.true_and]
    · rw [decide_eq_false c]; rfl
def pairC (p n x p' n' x' : Int) : Int := bif isCh p n x && isCh p' n' x' then (if p = p' ∧ n = n' then 0 else 2) else 1
theorem pairC_zero {p n x p' n' x' : Int} (h : pairC p n x p' n' x' = 0) : isCh p n x = true ∧ isCh p' n' x' = true ∧ p = p' ∧ n = n' := by
  unfold pairC at h
  cases c : isCh p n x with
  | false => rw [c] at h; simp at h
  | true => cases c' : isCh p' n' x' with
    | false => rw [c, c'] at h; simp at h
    | true =>
      rw [c, c'] at h
      simp only [Bool.and_true, cond_true] at h
      split at h
      · rename_i e; exact ⟨rfl, rfl, e.1, e.2⟩
      · omega
theorem pairCode_eq {p p' : Int} (h : PrOk p) (h' : PrOk p') (n x n' x' : Int) (k : Nat) (hk : 1014 ≤ k) (Φ : Int → A) : impl_pairCode z k p n x p' n' x' Φ = Φ (pairC p n x p' n' x') := by
  obtain ⟨k, rfl⟩ := le_ex (show 1 ≤ k by omega)
  simp only [impl_pairCode, step_succ]
  rw [isCharacter_eq z h n x _ (by omega), isCharacter_eq z h' n' x' _ (by omega)]
  unfold pairC
  cases isCh p n x with
  | false => rfl
  | true => cases isCh p' n' x' with
    | false => rfl
    | true =>
      simp only [Bool.not_true, cond_false, Bool.and_true, cond_true]
      by_cases c : p = p'
      · by_cases c2 : n = n'
        · rw [if_neg (by omega), if_neg (by omega), if_pos ⟨c, c2⟩]
        · rw [if_neg (by omega), if_pos c2, if_neg (fun e => c2 e.2)]
      · rw [if_pos c, if_neg (fun e => c e.1)]
theorem like03_eq (p p' n x n' x' : Int) (k : Nat) (hk : 1014 ≤ k) (Φ : Int → A) : spec_l03Like z k p n x p' n' x' Φ = Φ (pairC p n x p' n' x') := by
  obtain ⟨k, rfl⟩ := le_ex (show 1 ≤ k by omega)
  simp only [spec_l03Like, step_succ]
  rw [is03_eq z p n x _ (by omega), is03_eq z p' n' x' _ (by omega)]
  unfold pairC
  cases isCh p n x with
  | false => rfl
  | true => cases isCh p' n' x' with
    | false => rfl
    | true =>
      simp only [Bool.not_true, cond_false, Bool.and_true, cond_true]
      by_cases c : p = p'
      · by_cases c2 : n = n'
        · rw [if_neg (by omega), if_neg (by omega), if_pos ⟨c, c2⟩]
        · rw [if_neg (by omega), if_pos c2, if_neg (fun e => c2 e.2)]
      · rw [if_pos c, if_neg (fun e => c e.1)]
end
/-! ### Tables -/
theorem repeat_tab : ∀ p : Nat, isP p = true → ∀ (j : Nat) (A : Type) (z : A) (v : Int) (Φ : List Int → A), slices_Repeat_Sint64_int64 z (j + 100) [v] (p : Int) Φ = Φ (List.replicate p v) :=
  byP (fun _ _ _ _ _ => by kernel_rfl) (fun _ _ _ _ _ => by kernel_rfl) (fun _ _ _ _ _ => by kernel_rfl) (fun _ _ _ _ _ => by kernel_rfl) (fun _ _ _ _ _ => by kernel_rfl) (fun _ _ _ _ _ => by kernel_rfl) (fun _ _ _ _ _ => by kernel_rfl) (fun _ _ _ _ _ => by kernel_rfl) (fun _ _ _ _ _ => by kernel_rfl) (fun _ _ _ _ _ => by kernel_rfl) (fun _ _ _ _ _ => by kernel_rfl) (fun _ _ _ _ _ => by kernel_rfl) (fun _ _ _ _ _ => by kernel_rfl) (fun _ _ _ _ _ => by kernel_rfl) (fun _ _ _ _ _ => by kernel_rfl) (fun _ _ _ _ _ => by kernel_rfl) (fun _ _ _ _ _ => by kernel_rfl)
theorem indices_tab : ∀ p : Nat, isP p = true → ∀ (j : Nat) (A : Type) (z : A) (Φ : List Int → Int → A), impl_indices z (j + 200) (p : Int) Φ = Φ (idxL p) (rootT p : Int) :=
  byP (fun _ _ _ _ => by kernel_rfl) (fun _ _ _ _ => by kernel_rfl) (fun _ _ _ _ => by kernel_rfl) (fun _ _ _ _ => by kernel_rfl) (fun _ _ _ _ => by kernel_rfl) (fun _ _ _ _ => by kernel_rfl) (fun _ _ _ _ => by kernel_rfl) (fun _ _ _ _ => by kernel_rfl) (fun _ _ _ _ => by kernel_rfl) (fun _ _ _ _ => by kernel_rfl) (fun _ _ _ _ => by kernel_rfl) (fun _ _ _ _ => by kernel_rfl) (fun _ _ _ _ => by kernel_rfl) (fun _ _ _ _ => by kernel_rfl) (fun _ _ _ _ => by kernel_rfl) (fun _ _ _ _ => by kernel_rfl) (fun _ _ _ _ => by kernel_rfl)
theorem root_tab : ∀ p : Nat, isP p = true → ∀ (j : Nat) (A : Type) (z : A) (Φ : Int → A), spec_l03Root z (j + 200) (p : Int) Φ = Φ (rootT p : Int) :=
  byP (fun _ _ _ _ => by kernel_rfl) (fun _ _ _ _ => by kernel_rfl) (fun _ _ _ _ => by kernel_rfl) (fun _ _ _ _ => by kernel_rfl) (fun _ _ _ _ => by kernel_rfl) (fun _ _ _ _ => by kernel_rfl) (fun _ _ _ _ => by kernel_rfl) (fun _ _ _ _ => by kernel_rfl) (fun _ _ _ _ => by kernel_rfl) (fun _ _ _ _ => by kernel_rfl) (fun _ _ _ _ => by kernel_rfl) (fun _ _ _ _ => by kernel_rfl) (fun _ _ _ _ => by kernel_rfl) (fun _ _ _ _ => by kernel_rfl) (fun _ _ _ _ => by kernel_rfl) (fun _ _ _ _ => by kernel_rfl) (fun _ _ _ _ => by kernel_rfl)
section
variable {A : Type} (z : A) {p : Nat} (hp : isP p = true)
include hp
theorem indices_eq (k : Nat) (hk : 200 ≤ k) (Φ : List Int → Int → A) : impl_indices z k (p : Int) Φ = Φ (idxL p) (rootT p : Int) := by
  obtain ⟨k, rfl⟩ := le_ex hk
  exact indices_tab p hp k A z Φ
theorem root_eq (k : Nat) (hk : 200 ≤ k) (Φ : Int → A) : spec_l03Root z k (p : Int) Φ = Φ (rootT p : Int) := by
  obtain ⟨k, rfl⟩ := le_ex hk
  exact root_tab p hp k A z Φ
end
theorem ix_bd {p x : Nat} (hp : isP p = true) (h1 : 1 ≤ x) (h2 : x < p) : ix p x < 60 := by
  have := (idx_facts hp).lt x h1 h2
  have := isP_bd1 hp
  omega
theorem exN_def {p n k x : Nat} (hp : isP p = true) (h1 : 1 ≤ x) (h2 : x < p) (hn : n ≤ 16) (hk : k < n) : Int.tmod (w64 ((ix p x : Int) * (k : Int))) (n : Int) = (exN p n k x : Int) := by
  have h3 := ix_bd hp h1 h2
  have h4 : ix p x * k ≤ 60 * 16 := Nat.mul_le_mul (by omega) (by omega)
  rw [← Int.natCast_mul, w64_id (by omega) (by omega), tmodN]
  rfl
section
variable {A : Type} (z : A) {p n k' : Nat} (C : Ch p n k')
include C
theorem exp_g4 {K0 : List Int → A} : ∀ (d i k : Nat), i + d = p → d + 1 ≤ k →
    impl_exponents.g4 z k (p : Int) (i : Int) (n : Int) (k' : Int) (tab p fun x => if x = 0 then -1 else if x < i then (exN p n k' x : Int) else (ix p x : Int)) K0 = K0 (exL p n k')
  | d, i, 0, _, hk => absurd hk (by omega)
  | 0, i, k + 1, hi, hk => by
    rw [impl_exponents.g4, if_neg (by omega)]
    congr 1
    exact tab_congr fun x hx => by rw [if_pos (show x < i by omega)]
  | d + 1, i, k + 1, hi, hk => by
    have hb := isP_bd1 C.pr
    have hn := C.n1
    rw [impl_exponents.g4, if_pos (by omega), inI_at z (by rw [tab_length]; omega)]
    by_cases c : i = 0
    · subst c
      rw [if_neg (by omega), w64_up (by omega), show (tab p fun x => if x = 0 then -1 else if x < 0 then (exN p n k' x : Int) else (ix p x : Int)) = tab p fun x => if x = 0 then -1 else if x < 0 + 1 then (exN p n k' x : Int) else (ix p x : Int) from tab_congr fun x hx => by
        by_cases c : x = 0
        · rw [if_pos c, if_pos c]
        · rw [if_neg c, if_neg c, if_neg (by omega), if_neg (by omega)]]
      exact exp_g4 d (0 + 1) k (by omega) (by omega)
    · rw [if_pos (by omega), gd_ok z (by omega), inI_at z (by rw [tab_length]; omega), w64_up (by omega)]
      have e : (tab p fun x => if x = 0 then -1 else if x < i then (exN p n k' x : Int) else (ix p x : Int)).getD i 0 = (ix p i : Int) := by
        have := tab_rd p (fun x => if x = 0 then -1 else if x < i then (exN p n k' x : Int) else (ix p x : Int)) i (by omega)
        unfold rd at this
        rw [Int.toNat_natCast] at this
        rw [this, if_neg c, if_neg (by omega)]
      rw [e, exN_def C.pr (by omega) (by omega) C.n2 C.lt, tab_set, show (tab p fun m => if i = m then (exN p n k' i : Int) else if m = 0 then -1 else if m < i then (exN p n k' m : Int) else (ix p m : Int)) = tab p fun x => if x = 0 then -1 else if x < i + 1 then (exN p n k' x : Int) else (ix p x : Int) from tab_congr fun x hx => by
        by_cases c1 : i = x
        · subst c1; rw [if_pos rfl, if_neg c, if_pos (by omega)]
        · rw [if_neg c1]
          by_cases c2 : x = 0
          · rw [if_pos c2, if_pos c2]
          · rw [if_neg c2, if_neg c2]
            by_cases c3 : x < i
            · rw [if_pos c3, if_pos (by omega)]
            · rw [if_neg c3, if_neg (by omega)]]
      exact exp_g4 d (i + 1) k (by omega) (by omega)
theorem exponents_eq (k : Nat) (hk : 210 ≤ k) (Φ : List Int → A) : impl_exponents z k (p : Int) (n : Int) (k' : Int) Φ = Φ (exL p n k') := by
  obtain ⟨k, rfl⟩ := le_ex (show 1 ≤ k by omega)
  have I := idx_facts C.pr
  have hb := isP_bd1 C.pr
  simp only [impl_exponents, step_succ]
  rw [indices_eq z C.pr _ (by omega), I.len, show idxL p = tab p fun x => if x = 0 then -1 else if x < 0 then (exN p n k' x : Int) else (ix p x : Int) from tab_ext I.len fun x hx => by
    by_cases c : x = 0
    · subst c; rw [if_pos rfl, I.zero]
    · rw [if_neg c, if_neg (by omega), I.rd x (by omega) hx]]
  exact exp_g4 z C p 0 k (by omega) (by omega)
end
section
variable {A : Type} (z : A) {p : Nat} (hp : isP p = true)
include hp
theorem index_g4 {x : Nat} (h1 : 1 ≤ x) (h2 : x < p) {K0 : Int → A} : ∀ (d i k : Nat), i + d = ix p x → d + 1 ≤ k →
    spec_l03Index.g4 z k (p : Int) (x : Int) (rootT p : Int) ((rootT p ^ i % p : Nat) : Int) (i : Int) K0 = K0 (ix p x : Int)
  | d, i, 0, _, hk => absurd hk (by omega)
  | 0, i, k + 1, hi, hk => by
    have I := idx_facts hp
    rw [spec_l03Index.g4, if_neg (by rw [show i = ix p x by omega, I.pow x h1 h2]; simp), show i = ix p x by omega]
  | d + 1, i, k + 1, hi, hk => by
    have I := idx_facts hp
    have hb := isP_bd1 hp
    have h3 := ix_bd hp h1 h2
    have h4 := I.least x h1 h2 i (by omega)
    have h5 : rootT p ^ i % p < p := Nat.mod_lt _ (by omega)
    have h6 : rootT p ≤ 61 := by
      have : ((List.range 62).all fun p => decide (rootT p ≤ 61)) = true := by decide +kernel
      exact of_decide_eq_true (List.all_eq_true.1 this p (List.mem_range.2 (by omega)))
    have h7 : (rootT p ^ i % p) * rootT p ≤ 61 * 61 := Nat.mul_le_mul (by omega) h6
    rw [spec_l03Index.g4, if_pos (by omega), gd_ok z (by omega), ← Int.natCast_mul, w64_id (by omega) (by omega), tmodN, w64_up (by omega), show rootT p ^ i % p * rootT p % p = rootT p ^ (i + 1) % p by rw [Nat.mod_mul_mod, Nat.pow_succ]]
    exact index_g4 h1 h2 d (i + 1) k (by omega) (by omega)
theorem mod_bd {x : Int} (h : x % p ≠ 0) : 1 ≤ (x % p).toNat ∧ (x % p).toNat < p := by
  have hb := isP_bd1 hp
  have h1 := Int.emod_nonneg x (b := (p : Int)) (by omega)
  have h2 := Int.emod_lt_of_pos x (b := (p : Int)) (by omega)
  omega
theorem turn_eq (x : Int) : Int.tmod (w64 (Int.tmod x p + p)) p = x % p := by
  have hb := isP_bd1 hp
  obtain ⟨t1, t2⟩ := tmod_lt (a := x) (n := (p : Int)) (by omega)
  rw [w64_id (by omega) (by omega), Int.tmod_eq_emod_of_nonneg (by omega), Int.add_emod_right, tmod_emod]
theorem index03_eq {x : Int} (h : x % p ≠ 0) (k : Nat) (hk : 300 ≤ k) (Φ : Int → A) : spec_l03Index z k (p : Int) x Φ = Φ (ix p (x % p).toNat : Int) := by
  have hb := isP_bd1 hp
  obtain ⟨m1, m2⟩ := mod_bd hp h
  obtain ⟨k, rfl⟩ := le_ex (show 1 ≤ k by omega)
  simp only [spec_l03Index, step_succ]
  rw [root_eq z hp _ (by omega), gd_ok z (by omega), gd_ok z (by omega), turn_eq hp x]
  have h3 := ix_bd hp m1 m2
  have e := index_g4 z hp m1 m2 (K0 := Φ) (ix p (x % p).toNat) 0 k (by omega) (by omega)
  rw [Nat.pow_zero, Nat.mod_eq_of_lt (by omega), show (((x % p).toNat : Nat) : Int) = x % p by have := Int.emod_nonneg x (b := (p : Int)) (by omega); omega] at e
  exact e
end
/-- The exponent at any number, -1 for multiples of p. -/
def exI (p n k : Nat) (x : Int) : Int := if x % p = 0 then -1 else (exN p n k (x % p).toNat : Int)
/-- The value at any number. -/
def atT (p n k : Nat) (x : Int) : List Int := if x % p = 0 then nilT n else zT n (exN p n k (x % p).toNat)
theorem atT_len (p n k : Nat) (x : Int) : (atT p n k x).length = cycD n := by unfold atT; split; exact nilT_len n; exact zT_len n _
theorem atT_good {p n k : Nat} (h1 : 1 ≤ n) (h2 : n ≤ 16) (x : Int) : GoodZ n (atT p n k x) := by unfold atT; split; exact nilT_good n; exact zT_good h1 h2 _
section
variable {A : Type} (z : A)
variable {p n k' : Nat} (C : Ch p n k')
include C
theorem exponent03_eq (x : Int) (k : Nat) (hk : 310 ≤ k) (Φ : Int → A) : spec_l03Exponent z k (p : Int) (n : Int) (k' : Int) x Φ = Φ (exI p n k' x) := by
  have hb := isP_bd1 C.pr
  have := C.n1
  obtain ⟨k, rfl⟩ := le_ex (show 1 ≤ k by omega)
  simp only [spec_l03Exponent, step_succ]
  rw [gd_ok z (by omega)]
  unfold exI
  by_cases c : x % p = 0
  · rw [if_pos (tmod_zero.2 c), if_pos c]
  · obtain ⟨m1, m2⟩ := mod_bd C.pr c
    rw [if_neg (fun e => c (tmod_zero.1 e)), if_neg c, index03_eq z C.pr c _ (by omega), gd_ok z (by omega), exN_def C.pr m1 m2 C.n2 C.lt]
end
end Go.Proofs.Ytlpooghphoohcaa.F
/- Sums over characters by both sides. -/
namespace Go.Proofs.Ytlpooghphoohcaa.F
open Go.RowKit Go.Proofs.Ytlpooghphoohcaa.R
set_option linter.unusedVariables false
set_option linter.unusedSimpArgs false
section
variable {A : Type} (z : A)
theorem withC_in {row : List Int} (hr : row.length ≤ 1000) (v : Int) {K0 : List Int → A} : ∀ (d c k : Nat) (o : List Int), c + d = row.length → o.length = row.length → d + 1 ≤ k →
    impl_field_with_c140.g10 z k v row (row.length : Int) (c : Int) o K0 = K0 (addIn row v 0 d c o)
  | d, c, 0, o, _, _, hk => absurd hk (by omega)
  | 0, c, k + 1, o, hc, ho, hk => by
    rw [impl_field_with_c140.g10, if_neg (by omega)]
    rfl
  | d + 1, c, k + 1, o, hc, ho, hk => by
    rw [impl_field_with_c140.g10, if_pos (by omega), inI_at z (by omega), inI_at z (by omega), inI_at z (by omega), w64_up (by omega), withC_in hr v d (c + 1) k _ (by omega) (by rw [List.length_set]; exact ho) (by omega)]
    rw [show addIn row v 0 (d + 1) c o = addIn row v 0 d (c + 1) (o.set c (w64 (o.getD c 0 + w64 (v * row.getD c 0)))) by rw [addIn, Nat.zero_add]; rfl]
theorem withC_g {n : Nat} (h1 : 1 ≤ n) (h2 : n ≤ 16) {x : List Int} (hx : x.length ≤ 100) {K0 : List Int → A} : ∀ (d i k : Nat) (o : List Int), i + d = x.length → o.length = cycD n → d + 20 ≤ k →
    impl_field_with_c140.g4 z k (n : Int) (cycP n) x (x.length : Int) (i : Int) o K0 = K0 (imIn n x (fun i => i % n) d i o)
  | d, i, 0, o, _, _, hk => absurd hk (by omega)
  | 0, i, k + 1, o, hi, ho, hk => by
    rw [impl_field_with_c140.g4, if_neg (by omega)]
    rfl
  | d + 1, i, k + 1, o, hi, ho, hk => by
    have q1 : i % n < n := Nat.mod_lt _ (by omega)
    have C := cyc_facts h1 h2
    obtain ⟨r1, r2, r3⟩ := cycRow_facts C h1 q1
    have := C.le12
    obtain ⟨j, rfl, hj⟩ := up (show d + 19 + 1 ≤ k by omega)
    rw [impl_field_with_c140.g4, if_pos (by omega), inI_at z (by omega)]
    simp only [impl_counted_1, step_succ]
    rw [around_eq z _ (by omega) (by omega), show (i : Int) % (n : Int) = ((i % n : Nat) : Int) by omega, inI_at z (by rw [C.lenP]; omega), w64_up (by omega)]
    refine Eq.trans (withC_in z (row := cycRow n (i % n)) (by omega) _ (cycRow n (i % n)).length 0 (j + 1) o (by omega) (by omega) (by omega)) ?_
    rw [r1]
    have hl := (addIn_length (cycRow n (i % n)) (rd x i) 0 (cycD n) 0 o).trans ho
    exact withC_g h1 h2 hx d (i + 1) (j + 1) _ (by omega) hl (by omega)
theorem counted_eq {n : Nat} (h1 : 1 ≤ n) (h2 : n ≤ 16) {x : List Int} (hx : x.length ≤ 100) (k : Nat) (hk : 330 ≤ k) (Φ : List Int → A) :
    impl_counted z k (n : Int) x Φ = Φ (tab (cycD n) fun m => wrap64 (dot x (cycW n m))) := by
  obtain ⟨k, rfl⟩ := le_ex (show 2 ≤ k by omega)
  have := le12 h1 h2
  simp only [impl_counted, step_succ]
  rw [field_eq z h1 h2 _ (by omega)]
  simp only [impl_field_with_c140, step_succ]
  rw [mkI_at z (by omega)]
  refine Eq.trans (withC_g z h1 h2 hx x.length 0 k _ (by omega) (by simp) (by omega)) ?_
  rw [imIn_tab (cyc_facts h1 h2) h1 x _ fun j hj => Nat.mod_lt _ (by omega)]
  congr 1
  refine tab_congr fun m hm => ?_
  unfold galQ dot
  rw [sumF_congr (g := fun i => rd x i * cycW n m i) _ 0 fun i _ _ => by rw [cycW_mod]]
end
/-! ### How often each exponent comes, by a table -/
def smIn (p n k : Nat) (T : List Int) : Nat → Nat → List Int → List Int
  | 0, _, L => L
  | d + 1, i, L => smIn p n k T d (i + 1) (if i = 0 then L else L.set (exN p n k i) (wrap64 (rd L (exN p n k i : Nat) + rd T i)))
theorem smIn_facts {p n k : Nat} (h1 : 1 ≤ n) (T : List Int) : ∀ (d i : Nat) (L : List Int), L.length = n → Wrapped L →
    (smIn p n k T d i L).length = n ∧ Wrapped (smIn p n k T d i L) ∧ ∀ w : Nat → Int, Cg (dot (smIn p n k T d i L) w) (dot L w + sumF i d fun x => if x = 0 then 0 else rd T x * w (exN p n k x))
  | 0, i, L, hl, hw => ⟨hl, hw, fun w => Cg.of (by show dot L w = dot L w + 0; omega)⟩
  | d + 1, i, L, hl, hw => by
    unfold smIn
    by_cases c : i = 0
    · rw [if_pos c]
      obtain ⟨a1, a2, a3⟩ := smIn_facts h1 T d (i + 1) L hl hw
      refine ⟨a1, a2, fun w => (a3 w).trans (Cg.of ?_)⟩
      have e : (sumF i (d + 1) fun x => if x = 0 then 0 else rd T x * w (exN p n k x)) = (if i = 0 then 0 else rd T i * w (exN p n k i)) + sumF (i + 1) d fun x => if x = 0 then 0 else rd T x * w (exN p n k x) := rfl
      rw [e, if_pos c]
      omega
    · rw [if_neg c]
      have hq : exN p n k i < L.length := by rw [hl]; exact exN_lt h1
      obtain ⟨a1, a2, a3⟩ := smIn_facts h1 T d (i + 1) (L.set (exN p n k i) (wrap64 (rd L (exN p n k i : Nat) + rd T i))) (by rw [List.length_set]; exact hl) (hw.set _ _)
      refine ⟨a1, a2, fun w => (a3 w).trans ?_⟩
      have e : (sumF i (d + 1) fun x => if x = 0 then 0 else rd T x * w (exN p n k x)) = (if i = 0 then 0 else rd T i * w (exN p n k i)) + sumF (i + 1) d fun x => if x = 0 then 0 else rd T x * w (exN p n k x) := rfl
      rw [e, if_neg c]
      exact ((dot_put L _ (rd T i) w hq).add (Cg.refl _)).trans (Cg.of (by omega))
section
variable {A : Type} (z : A) {p n k' : Nat} (C : Ch p n k')
include C
end
/-! ### Rows added up, one after the other -/
def accR (D : Nat) (Y : Nat → List Int) (v : Nat → Int) : Nat → Nat → List Int → List Int
  | 0, _, X => X
  | d + 1, i, X => accR D Y v d (i + 1) (addIn (Y i) (v i) 0 D 0 X)
theorem accR_facts {D : Nat} {Y : Nat → List Int} {v : Nat → Int} (hY : ∀ i, (Y i).length = D) : ∀ (d i : Nat) (X : List Int), X.length = D → Wrapped X →
    (accR D Y v d i X).length = D ∧ Wrapped (accR D Y v d i X) ∧ ∀ w : Nat → Int, Cg (dot (accR D Y v d i X) w) (dot X w + sumF i d fun x => v x * dot (Y x) w)
  | 0, i, X, hl, hw => ⟨hl, hw, fun w => Cg.of (by show dot X w = dot X w + 0; omega)⟩
  | d + 1, i, X, hl, hw => by
    obtain ⟨b1, b2, b3⟩ := addIn_facts (Y i) (v i) 0 D 0 X (by omega) hw
    obtain ⟨a1, a2, a3⟩ := accR_facts hY d (i + 1) (addIn (Y i) (v i) 0 D 0 X) (by omega) b2
    unfold accR
    refine ⟨a1, a2, fun w => (a3 w).trans ?_⟩
    have e : (sumF i (d + 1) fun x => v x * dot (Y x) w) = v i * dot (Y i) w + sumF (i + 1) d fun x => v x * dot (Y x) w := rfl
    have e2 : sumF 0 D (fun j => rd (Y i) j * w (0 + j)) = dot (Y i) w := by
      unfold dot
      rw [hY i]
      exact sumF_congr _ 0 fun j _ _ => by rw [Nat.zero_add]
    rw [e]
    have h := b3 w
    rw [e2] at h
    exact (h.add (Cg.refl _)).trans (Cg.of (by omega))
theorem accR_tab {D : Nat} {Y : Nat → List Int} {v : Nat → Int} (hY : ∀ i, (Y i).length = D) (d i : Nat) : accR D Y v d i (List.replicate D 0) = tab D fun m => wrap64 (sumF i d fun x => v x * rd (Y x) (m : Nat)) := by
  obtain ⟨a1, a2, a3⟩ := accR_facts hY d i (List.replicate D 0) (by simp) (wrapped_zeros D)
  rw [acc_tab (S := fun w => sumF i d fun x => v x * dot (Y x) w) a1 a2 (fun w => (a3 w).trans (Cg.of (by rw [dot_zeros, Int.zero_add])))]
  refine tab_congr fun m hm => ?_
  congr 1
  exact sumF_congr _ _ fun x _ _ => by rw [dot_one _ _ (by rw [hY]; exact hm)]
theorem atT_in {p n k x : Nat} (h1 : 1 ≤ x) (h2 : x < p) : atT p n k (x : Int) = zT n (exN p n k x) := by
  unfold atT
  have e : (x : Int) % (p : Int) = x := Int.emod_eq_of_lt (by omega) (by omega)
  rw [e, if_neg (by omega), Int.toNat_natCast]
/-- Summed rows of values are what is counted. -/
theorem accAt {p n k : Nat} {T : Nat → Int} : accR (cycD n) (fun x => atT p n k (x : Int)) T (p - 1) 1 (List.replicate (cycD n) 0) = chT p n k T := by
  rw [accR_tab (fun i => atT_len p n k _)]
  refine tab_congr fun m hm => ?_
  congr 1
  unfold chW
  exact sumF_congr _ _ fun x hx hx2 => by rw [atT_in (by omega) (by omega), zT_rd hm]
section
variable {A : Type} (z : A) {p n k' : Nat} (C : Ch p n k')
include C
end
theorem chT_congr {p n k : Nat} {T S : Nat → Int} (h : ∀ x, 1 ≤ x → x < p → T x = S x) : chT p n k T = chT p n k S := by
  refine tab_congr fun m hm => ?_
  congr 1
  exact sumF_congr _ _ fun x h1 h2 => by rw [h x (by omega) (by omega)]
def sum3 (p n k : Int) : Int × List Int × Int := if isCh p n k = true then (n, chT p.toNat n.toNat k.toNat fun _ => 1, 0) else (0, [], 1)
section
variable {A : Type} (z : A)
theorem chT_ones {p n k : Nat} : chT p n k (fun x => rd (List.replicate p 1) x) = chT p n k fun _ => 1 :=
  chT_congr fun x h1 h2 => by rw [rd_nat _ _ (by simpa using h2), List.getElem_replicate]
end
end Go.Proofs.Ytlpooghphoohcaa.F
/- Tables of rows; sums over lists of numbers, plainly. -/
namespace Go.Proofs.Ytlpooghphoohcaa.F
open Go.RowKit Go.Proofs.Ytlpooghphoohcaa.R
set_option linter.unusedVariables false
set_option linter.unusedSimpArgs false
/-- A table of p rows of n numbers. -/
def mtab (p n : Nat) (f : Nat → Nat → Int) : List (List Int) := (List.range p).map fun s => tab n (f s)
theorem mtab_len (p n : Nat) (f : Nat → Nat → Int) : (mtab p n f).length = p := by simp [mtab]
theorem mtab_get {p n : Nat} {f : Nat → Nat → Int} {s : Nat} (h : s < p) : (mtab p n f).getD s [] = tab n (f s) := by
  simp [mtab, List.getD_eq_getElem?_getD, h]
theorem mtab_set (p n : Nat) (f : Nat → Nat → Int) (q : Nat) (g : Nat → Int) : (mtab p n f).set q (tab n g) = mtab p n fun s => if q = s then g else f s := by
  apply List.ext_getElem?
  intro i
  rw [List.getElem?_set]
  by_cases h : i < p
  · by_cases e : q = i
    · subst e
      simp [mtab, h]
    · simp [mtab, h, e]
  · by_cases e : q = i
    · subst e
      simp [mtab, h]
    · simp [mtab, h, e]
theorem mtab_congr {p n : Nat} {f g : Nat → Nat → Int} (h : ∀ s, s < p → ∀ m, m < n → f s m = g s m) : mtab p n f = mtab p n g :=
  List.map_congr_left fun s hs => tab_congr (h s (List.mem_range.1 hs))
theorem set_self {α : Type} (l : List α) (i : Nat) (d : α) : l.set i (l.getD i d) = l := by
  apply List.ext_getElem?
  intro j
  rw [List.getElem?_set]
  by_cases e : i = j
  · subst e
    by_cases h : i < l.length
    · simp [h, List.getD_eq_getElem?_getD]
    · simp [h]
  · simp [e]
theorem mtab_self {p n : Nat} {f : Nat → Nat → Int} {s : Nat} (h : s < p) : (mtab p n f).set s (tab n (f s)) = mtab p n f := by
  rw [← mtab_get h]
  exact set_self _ _ _
/-- m - e, around n. -/
def subW (n m e : Nat) : Nat := if e ≤ m then m - e else m + n - e
theorem subW_lt {n m e : Nat} (hm : m < n) (he : e < n) : subW n m e < n := by unfold subW; split <;> omega
theorem addN {n j e : Nat} (hj : j < n) (he : e < n) : (j + e) % n = if j + e < n then j + e else j + e - n := by
  split
  · exact Nat.mod_eq_of_lt ‹_›
  · rw [Nat.mod_eq_sub_mod (by omega), Nat.mod_eq_of_lt (by omega)]
theorem addN_sub {n j e m : Nat} (hj : j < n) (he : e < n) (hm : m < n) : (j + e) % n = m ↔ subW n m e = j := by
  rw [addN hj he]
  unfold subW
  split <;> split <;> omega
/-- One more number: how the table turns. -/
def conv (p n k : Nat) (f : Nat → Nat → Int) (t m : Nat) : Int := wrap64 (sumF 1 (p - 1) fun x => f (subW p t x) (subW n m (exN p n k x)))
/-- The same, up to a number. -/
def convTo (p n k : Nat) (f : Nat → Nat → Int) (d : Nat) (t m : Nat) : Int := wrap64 (sumF 1 d fun x => f (subW p t x) (subW n m (exN p n k x)))
def unitT (t m : Nat) : Int := if t = 0 then (if m = 0 then 1 else 0) else 0
/-- How often each sum comes with each exponent. -/
def jT (p n : Nat) : List Nat → (Nat → Nat → Int) → Nat → Nat → Int
  | [], f => f
  | k :: l, f => jT p n l (conv p n k f)
/-- The sum over all lists with a total. -/
def jS (p n : Nat) (l : List Nat) (total : Nat) : List Int := tab (cycD n) fun m => wrap64 (dot (tab n (jT p n l unitT total)) (cycW n m))
theorem sumF_snoc (f : Nat → Int) : ∀ (d a : Nat), sumF a (d + 1) f = sumF a d f + f (a + d)
  | 0, a => by
    show f a + 0 = 0 + f (a + 0)
    rw [Nat.add_zero]
    omega
  | d + 1, a => by
    have h1 : sumF a (d + 1 + 1) f = f a + sumF (a + 1) (d + 1) f := rfl
    have h2 : sumF a (d + 1) f = f a + sumF (a + 1) d f := rfl
    rw [h1, h2, sumF_snoc f d (a + 1), show a + 1 + d = a + (d + 1) by omega]
    omega
theorem convTo_succ {p n k : Nat} {f : Nat → Nat → Int} {d t m : Nat} : convTo p n k f (d + 1) t m = wrap64 (convTo p n k f d t m + f (subW p t (1 + d)) (subW n m (exN p n k (1 + d)))) := by
  unfold convTo
  rw [sumF_snoc]
  exact ((Cg.wrap _).symm.add (Cg.refl _)).eq
theorem jT_wrapped {p n : Nat} : ∀ (l : List Nat) (f : Nat → Nat → Int), (∀ t m, wrap64 (f t m) = f t m) → ∀ t m, wrap64 (jT p n l f t m) = jT p n l f t m
  | [], f, h => h
  | k :: l, f, h => jT_wrapped l _ fun t m => wrap_wrap _
theorem unitT_wrapped (t m : Nat) : wrap64 (unitT t m) = unitT t m := by
  unfold unitT
  repeat' split
  all_goals exact wrap_id (by decide) (by decide)
theorem tab_wrapped {n : Nat} {f : Nat → Int} (h : ∀ m, wrap64 (f m) = f m) : Wrapped (tab n f) := fun j hj => by
  rw [tab_length] at hj
  rw [tab_rd _ _ _ hj, h]
end Go.Proofs.Ytlpooghphoohcaa.F
/- Sums over lists of numbers, by both sides. -/
namespace Go.Proofs.Ytlpooghphoohcaa.F
open Go.RowKit Go.Proofs.Ytlpooghphoohcaa.R
set_option linter.unusedVariables false
set_option linter.unusedSimpArgs false
section
variable {A : Type} (z : A)
/-- A row that is added to another, moved by e. -/
theorem sum_g43 {n e : Nat} (hn : n ≤ 16) (he : e < n) {M N : List (List Int)} {a b : Nat} (r t : Nat → Int) (hM : M.set a (tab n r) = M) {K0 : List (List Int) → List (List Int) → A} : ∀ (d j k : Nat), j + d = n → d + 1 ≤ k →
    impl_sumOver.g43 z k (n : Int) (e : Int) (n : Int) (j : Int) M a N b (tab n fun m => if subW n m e < j then wrap64 (t m + r (subW n m e)) else t m) (tab n r) K0 =
      K0 M (N.set b (tab n fun m => wrap64 (t m + r (subW n m e))))
  | d, j, 0, _, hk => absurd hk (by omega)
  | 0, j, k + 1, hj, hk => by
    rw [impl_sumOver.g43, if_neg (by omega), hM]
    congr 2
    exact tab_congr fun m hm => by rw [if_pos (by have := subW_lt hm he; omega)]
  | d + 1, j, k + 1, hj, hk => by
    have hq : (j + e) % n < n := Nat.mod_lt _ (by omega)
    have ha : (w64 ((j : Int) + (e : Int))).tmod (n : Int) = (((j + e) % n : Nat) : Int) := by
      rw [← Int.natCast_add, w64_id (by omega) (by omega), tmodN]
    have hs : subW n ((j + e) % n) e = j := (addN_sub (by omega) he hq).1 rfl
    rw [impl_sumOver.g43, if_pos (by omega), inI_at z (by rw [tab_length]; omega), gd_ok z (by omega)]
    simp only [ha]
    rw [inI_at z (by rw [tab_length]; exact hq), inI_at z (by rw [tab_length]; exact hq), w64_up (by omega), tab_getD hq, tab_getD (show j < n by omega), hs, if_neg (by omega), tab_set]
    refine Eq.trans ?_ (sum_g43 hn he r t hM d (j + 1) k (by omega) (by omega))
    congr 1
    refine tab_congr fun m hm => ?_
    by_cases c : (j + e) % n = m
    · have := (addN_sub (by omega) he hm).1 c
      rw [if_pos c, if_pos (by omega), this, c]
      rfl
    · have : subW n m e ≠ j := fun h => c ((addN_sub (by omega) he hm).2 h)
      rw [if_neg c]
      by_cases c2 : subW n m e < j
      · rw [if_pos c2, if_pos (by omega)]
      · rw [if_neg c2, if_neg (by omega)]
theorem sum_g36 {p n x e : Nat} (hp : p ≤ 61) (hn1 : 1 ≤ n) (hn : n ≤ 16) (hx : x < p) (he : e < n) (f g : Nat → Nat → Int) {K0 : List (List Int) → List (List Int) → A} : ∀ (d s k : Nat), s + d = p → d + 20 ≤ k →
    impl_sumOver.g36 z k (p : Int) (n : Int) (x : Int) (e : Int) (p : Int) (s : Int) (mtab p n f) (mtab p n fun t m => if subW p t x < s then wrap64 (g t m + f (subW p t x) (subW n m e)) else g t m) K0 =
      K0 (mtab p n f) (mtab p n fun t m => wrap64 (g t m + f (subW p t x) (subW n m e)))
  | d, s, 0, _, hk => absurd hk (by omega)
  | 0, s, k + 1, hs, hk => by
    rw [impl_sumOver.g36, if_neg (by omega)]
    congr 1
    exact mtab_congr fun t ht m hm => by rw [if_pos (by have := subW_lt ht hx; omega)]
  | d + 1, s, k + 1, hs, hk => by
    have hq : (s + x) % p < p := Nat.mod_lt _ (by omega)
    have ha : (w64 ((s : Int) + (x : Int))).tmod (p : Int) = (((s + x) % p : Nat) : Int) := by
      rw [← Int.natCast_add, w64_id (by omega) (by omega), tmodN]
    have hb : subW p ((s + x) % p) x = s := (addN_sub (by omega) hx hq).1 rfl
    rw [impl_sumOver.g36, if_pos (by omega), inI_at z (by rw [mtab_len]; omega), gd_ok z (by omega), ha, inI_at z (by rw [mtab_len]; exact hq), w64_up (by omega), mtab_get hq, mtab_get (show s < p by omega), tab_length]
    have e1 : (tab n fun m => if subW p ((s + x) % p) x < s then wrap64 (g ((s + x) % p) m + f (subW p ((s + x) % p) x) (subW n m e)) else g ((s + x) % p) m) = tab n fun m => if subW n m e < 0 then wrap64 (g ((s + x) % p) m + f s (subW n m e)) else g ((s + x) % p) m :=
      tab_congr fun m hm => by rw [if_neg (by omega), if_neg (by omega)]
    rw [e1]
    refine Eq.trans (sum_g43 z hn he (f s) (g ((s + x) % p)) (mtab_self (by omega)) n 0 k (by omega) (by omega)) ?_
    rw [mtab_set]
    refine Eq.trans ?_ (sum_g36 hp hn1 hn hx he f g d (s + 1) k (by omega) (by omega))
    congr 1
    refine mtab_congr fun t ht m hm => ?_
    by_cases c : (s + x) % p = t
    · have := (addN_sub (by omega) hx ht).1 c
      rw [if_pos c, if_pos (by omega), this, c]
    · have : subW p t x ≠ s := fun h => c ((addN_sub (by omega) hx ht).2 h)
      rw [if_neg c]
      by_cases c2 : subW p t x < s
      · rw [if_pos c2, if_pos (by omega)]
      · rw [if_neg c2, if_neg (by omega)]
theorem sum_g28 {p n k' : Nat} (C : Ch p n k') (f : Nat → Nat → Int) {K0 : List (List Int) → A} : ∀ (d x k : Nat), x + d = p → d + 100 ≤ k →
    impl_sumOver.g28 z k (p : Int) (n : Int) (p : Int) (x : Int) (mtab p n f) (mtab p n (convTo p n k' f (x - 1))) (exL p n k') K0 = K0 (mtab p n (conv p n k' f))
  | d, x, 0, _, hk => absurd hk (by omega)
  | 0, x, k + 1, hx, hk => by
    rw [impl_sumOver.g28, if_neg (by omega)]
    subst hx
    rfl
  | d + 1, x, k + 1, hx, hk => by
    have hb := isP_bd1 C.pr
    have h1 := C.n1
    have h2 := C.n2
    have hrd : (exL p n k').getD x 0 = if x = 0 then -1 else (exN p n k' x : Int) := by
      have := exL_rd (p := p) (n := n) (k := k') (x := x) (by omega)
      unfold rd at this
      rwa [Int.toNat_natCast] at this
    rw [impl_sumOver.g28, if_pos (by omega), inI_at z (by rw [exL_len]; omega), hrd]
    by_cases c : x = 0
    · rw [if_pos c, if_pos (by omega), w64_up (by omega)]
      subst c
      exact sum_g28 C f d (0 + 1) k (by omega) (by omega)
    · have he := exN_lt (p := p) (k := k') (x := x) h1
      rw [if_neg c, if_neg (by omega), mtab_len]
      have e1 : mtab p n (convTo p n k' f (x - 1)) = mtab p n fun t m => if subW p t x < 0 then wrap64 (convTo p n k' f (x - 1) t m + f (subW p t x) (subW n m (exN p n k' x))) else convTo p n k' f (x - 1) t m :=
        mtab_congr fun t ht m hm => by rw [if_neg (by omega)]
      rw [e1]
      refine Eq.trans (sum_g36 z (by omega) h1 h2 (by omega) he f (convTo p n k' f (x - 1)) p 0 k (by omega) (by omega)) ?_
      rw [w64_up (by omega)]
      refine Eq.trans ?_ (sum_g28 C f d (x + 1) k (by omega) (by omega))
      congr 1
      refine mtab_congr fun t ht m hm => ?_
      obtain ⟨y, rfl⟩ : ∃ y, x = 1 + y := ⟨x - 1, by omega⟩
      rw [show 1 + y + 1 - 1 = y + 1 by omega, show 1 + y - 1 = y by omega, convTo_succ]
/-- Rows of zeros, the first ones. -/
def zrows (p n s : Nat) : List (List Int) := (List.range p).map fun i => if i < s then List.replicate n 0 else []
theorem zrows_all (p n : Nat) : zrows p n p = mtab p n fun _ _ => 0 := List.map_congr_left fun i hi => by rw [if_pos (List.mem_range.1 hi), tab_zero]
theorem zrows_len (p n s : Nat) : (zrows p n s).length = p := by simp [zrows]
theorem zrows_none (p n : Nat) : List.replicate p ([] : List Int) = zrows p n 0 := by
  apply List.ext_getElem?
  intro i
  by_cases h : i < p <;> simp [zrows, h, List.getElem?_replicate]
theorem zrows_set {p n s : Nat} (h : s < p) : (zrows p n s).set s (List.replicate n 0) = zrows p n (s + 1) := by
  apply List.ext_getElem?
  intro i
  rw [List.getElem?_set]
  by_cases hi : i < p
  · by_cases e : s = i
    · subst e
      simp [zrows, h]
    · by_cases c : i < s
      · simp [zrows, hi, e, c, show i < s + 1 by omega]
      · simp [zrows, hi, e, c, show ¬ i < s + 1 by omega]
  · by_cases e : s = i
    · omega
    · simp [zrows, hi, e]
theorem set_set {α : Type} (l : List α) (i : Nat) (x : α) : (l.set i x).set i x = l.set i x := by simp
theorem sum_g5 {p n : Nat} (hp : p ≤ 61) (hn : n ≤ 16) {K0 : List (List Int) → A} : ∀ (d s k : Nat), s + d = p → d + 1 ≤ k →
    impl_sumOver.g5 z k (n : Int) (p : Int) (s : Int) (zrows p n s) K0 = K0 (mtab p n fun _ _ => 0)
  | d, s, 0, _, hk => absurd hk (by omega)
  | 0, s, k + 1, hs, hk => by
    rw [impl_sumOver.g5, if_neg (by omega), ← zrows_all, show s = p by omega]
  | d + 1, s, k + 1, hs, hk => by
    rw [impl_sumOver.g5, if_pos (by omega), mkI_at z (by omega), inI_at z (by rw [zrows_len]; omega), w64_up (by omega), set_set, zrows_set (by omega)]
    exact sum_g5 hp hn d (s + 1) k (by omega) (by omega)
theorem sum_g21 {p n : Nat} (hp : p ≤ 61) (hn : n ≤ 16) {K0 : List (List Int) → A} : ∀ (d s k : Nat), s + d = p → d + 1 ≤ k →
    impl_sumOver.g21 z k (n : Int) (p : Int) (s : Int) (zrows p n s) K0 = K0 (mtab p n fun _ _ => 0)
  | d, s, 0, _, hk => absurd hk (by omega)
  | 0, s, k + 1, hs, hk => by
    rw [impl_sumOver.g21, if_neg (by omega), ← zrows_all, show s = p by omega]
  | d + 1, s, k + 1, hs, hk => by
    rw [impl_sumOver.g21, if_pos (by omega), mkI_at z (by omega), inI_at z (by rw [zrows_len]; omega), w64_up (by omega), set_set, zrows_set (by omega)]
    exact sum_g21 hp hn d (s + 1) k (by omega) (by omega)
/-- Characters of one prime and order. -/
def chL (p n : Nat) (l : List Nat) : List (Int × Int × Int) := l.map fun k : Nat => ((p : Int), ((n : Int), ((k : Nat) : Int)))
theorem chL_len (p n : Nat) (l : List Nat) : (chL p n l).length = l.length := by simp [chL]
theorem chL_get {p n : Nat} {l : List Nat} {i : Nat} (h : i < l.length) : (chL p n l).getD i (0, (0, 0)) = ((p : Int), (n : Int), (l[i] : Int)) := by
  simp [chL, List.getD_eq_getElem?_getD, h]
theorem conv0 (p n k : Nat) : mtab p n (fun _ _ => 0) = mtab p n (convTo p n k (fun _ _ => 0) 0) := rfl
theorem sum_g13 {p n : Nat} (hp : isP p = true) (h1 : 1 ≤ n) (h2 : n ≤ 16) {l : List Nat} (hl : l.length ≤ 100) (hC : ∀ k ∈ l, Ch p n k) {K0 : List (List Int) → A} : ∀ (d i k : Nat) (f : Nat → Nat → Int), i + d = l.length → d + 400 ≤ k →
    impl_sumOver.g13 z k (p : Int) (n : Int) (chL p n l) (l.length : Int) (i : Int) (mtab p n f) K0 = K0 (mtab p n (jT p n (l.drop i) f))
  | d, i, 0, f, _, hk => absurd hk (by omega)
  | 0, i, k + 1, f, hi, hk => by
    rw [impl_sumOver.g13, if_neg (by omega), List.drop_eq_nil_of_le (by omega)]
    rfl
  | d + 1, i, k + 1, f, hi, hk => by
    have hb := isP_bd1 hp
    have hil : i < l.length := by omega
    have C := hC l[i] (List.getElem_mem hil)
    rw [impl_sumOver.g13, if_pos (by omega), inI_at z (by rw [chL_len]; omega), mkI_at z (by omega), List.length_replicate, zrows_none p n, chL_get hil]
    refine Eq.trans (sum_g21 z (by omega) h2 p 0 k (by omega) (by omega)) ?_
    rw [exponents_eq z C _ (by omega), exL_len]
    have e1 : mtab p n (fun _ _ => (0 : Int)) = mtab p n (convTo p n l[i] f (0 - 1)) := mtab_congr fun t ht m hm => by
      show (0 : Int) = wrap64 0
      rw [wrap_id (by decide) (by decide)]
    rw [e1]
    refine Eq.trans (sum_g28 z C f p 0 k (by omega) (by omega)) ?_
    rw [w64_up (by omega), List.drop_eq_getElem_cons hil]
    exact sum_g13 hp h1 h2 hl hC d (i + 1) k _ (by omega) (by omega)
theorem unit_tab {p n : Nat} (hp : 1 ≤ p) (hn : 1 ≤ n) : (mtab p n fun _ _ => (0 : Int)).set 0 ((tab n fun _ => (0 : Int)).set 0 1) = mtab p n unitT := by
  rw [tab_set, mtab_set]
  refine mtab_congr fun t ht m hm => ?_
  unfold unitT
  by_cases c : t = 0
  · subst c
    rw [if_pos rfl, if_pos rfl]
    by_cases c2 : m = 0
    · subst c2; rfl
    · rw [if_neg (fun h => c2 h.symm), if_neg c2]
  · rw [if_neg (fun h => c h.symm), if_neg c]
theorem sumOver_eq {p n : Nat} (hp : isP p = true) (h1 : 1 ≤ n) (h2 : n ≤ 16) {l : List Nat} (hl : 1 ≤ l.length ∧ l.length ≤ 100) (hC : ∀ k ∈ l, Ch p n k) {t : Nat} (ht : t < p) (k : Nat) (hk : 600 ≤ k) (Φ : Int → List Int → A) :
    impl_sumOver z k (chL p n l) (t : Int) Φ = Φ n (jS p n l t) := by
  have hb := isP_bd1 hp
  obtain ⟨k, rfl⟩ := le_ex (show 1 ≤ k by omega)
  simp only [impl_sumOver, step_succ]
  rw [inI_0 z (by rw [chL_len]; omega), inI_0 z (by rw [chL_len]; omega), chL_get (show 0 < l.length by omega), mkI_at z (by omega), List.length_replicate, zrows_none p n]
  refine Eq.trans (sum_g5 z (by omega) h2 p 0 k (by omega) (by omega)) ?_
  rw [inI_0 z (by rw [mtab_len]; omega), mtab_get (by omega), inI_0 z (by rw [tab_length]; omega), unit_tab (by omega) h1, chL_len]
  refine Eq.trans (sum_g13 z hp h1 h2 hl.2 hC l.length 0 k unitT (by omega) (by omega)) ?_
  rw [inI_at z (by rw [mtab_len]; exact ht), List.drop_zero, mtab_get ht, counted_eq z h1 h2 (by rw [tab_length]; omega) _ (by omega)]
  rfl
/-! the other side -/
theorem sum4_g38 {n e : Nat} (hn : n ≤ 16) (he : e < n) {p s : Nat} (hs : s < p) {N : List (List Int)} {b : Nat} (f : Nat → Nat → Int) (t : Nat → Int) {K0 : List (List Int) → List (List Int) → A} : ∀ (d j k : Nat), j + d = n → d + 1 ≤ k →
    spec_l04Sum.g38 z k (n : Int) (e : Int) (s : Int) (j : Int) (mtab p n f) N b (tab n fun m => if subW n m e < j then wrap64 (t m + f s (subW n m e)) else t m) K0 =
      K0 (mtab p n f) (N.set b (tab n fun m => wrap64 (t m + f s (subW n m e))))
  | d, j, 0, _, hk => absurd hk (by omega)
  | 0, j, k + 1, hj, hk => by
    rw [spec_l04Sum.g38, if_neg (by omega)]
    congr 2
    exact tab_congr fun m hm => by rw [if_pos (by have := subW_lt hm he; omega)]
  | d + 1, j, k + 1, hj, hk => by
    have hq : (j + e) % n < n := Nat.mod_lt _ (by omega)
    have ha : (w64 ((j : Int) + (e : Int))).tmod (n : Int) = (((j + e) % n : Nat) : Int) := by
      rw [← Int.natCast_add, w64_id (by omega) (by omega), tmodN]
    have hsb : subW n ((j + e) % n) e = j := (addN_sub (by omega) he hq).1 rfl
    rw [spec_l04Sum.g38, if_pos (by omega), gd_ok z (by omega), gd_ok z (by omega)]
    simp only [ha]
    rw [inI_at z (by rw [tab_length]; exact hq), inI_at z (by rw [mtab_len]; exact hs), mtab_get hs, inI_at z (by rw [tab_length]; omega), inI_at z (by rw [tab_length]; exact hq), w64_up (by omega), tab_getD hq, tab_getD (show j < n by omega), hsb, if_neg (by omega), tab_set, mtab_self hs]
    refine Eq.trans ?_ (sum4_g38 hn he hs f t d (j + 1) k (by omega) (by omega))
    congr 1
    refine tab_congr fun m hm => ?_
    by_cases c : (j + e) % n = m
    · have := (addN_sub (by omega) he hm).1 c
      rw [if_pos c, if_pos (by omega), this, c]
      rfl
    · have : subW n m e ≠ j := fun h => c ((addN_sub (by omega) he hm).2 h)
      rw [if_neg c]
      by_cases c2 : subW n m e < j
      · rw [if_pos c2, if_pos (by omega)]
      · rw [if_neg c2, if_neg (by omega)]
theorem sum4_g32 {p n x e : Nat} (hp : p ≤ 61) (hn1 : 1 ≤ n) (hn : n ≤ 16) (hx : x < p) (he : e < n) (f g : Nat → Nat → Int) {K0 : List (List Int) → List (List Int) → A} : ∀ (d s k : Nat), s + d = p → d + 20 ≤ k →
    spec_l04Sum.g32 z k (p : Int) (n : Int) (x : Int) (e : Int) (s : Int) (mtab p n f) (mtab p n fun t m => if subW p t x < s then wrap64 (g t m + f (subW p t x) (subW n m e)) else g t m) K0 =
      K0 (mtab p n f) (mtab p n fun t m => wrap64 (g t m + f (subW p t x) (subW n m e)))
  | d, s, 0, _, hk => absurd hk (by omega)
  | 0, s, k + 1, hs, hk => by
    rw [spec_l04Sum.g32, if_neg (by omega)]
    congr 1
    exact mtab_congr fun t ht m hm => by rw [if_pos (by have := subW_lt ht hx; omega)]
  | d + 1, s, k + 1, hs, hk => by
    have hq : (s + x) % p < p := Nat.mod_lt _ (by omega)
    have ha : (w64 ((s : Int) + (x : Int))).tmod (p : Int) = (((s + x) % p : Nat) : Int) := by
      rw [← Int.natCast_add, w64_id (by omega) (by omega), tmodN]
    have hb : subW p ((s + x) % p) x = s := (addN_sub (by omega) hx hq).1 rfl
    rw [spec_l04Sum.g32, if_pos (by omega), gd_ok z (by omega), ha, inI_at z (by rw [mtab_len]; exact hq), w64_up (by omega), mtab_get hq]
    have e1 : (tab n fun m => if subW p ((s + x) % p) x < s then wrap64 (g ((s + x) % p) m + f (subW p ((s + x) % p) x) (subW n m e)) else g ((s + x) % p) m) = tab n fun m => if subW n m e < 0 then wrap64 (g ((s + x) % p) m + f s (subW n m e)) else g ((s + x) % p) m :=
      tab_congr fun m hm => by rw [if_neg (by omega), if_neg (by omega)]
    rw [e1]
    refine Eq.trans (sum4_g38 z hn he (by omega) f (g ((s + x) % p)) n 0 k (by omega) (by omega)) ?_
    rw [mtab_set]
    refine Eq.trans ?_ (sum4_g32 hp hn1 hn hx he f g d (s + 1) k (by omega) (by omega))
    congr 1
    refine mtab_congr fun t ht m hm => ?_
    by_cases c : (s + x) % p = t
    · have := (addN_sub (by omega) hx ht).1 c
      rw [if_pos c, if_pos (by omega), this, c]
    · have : subW p t x ≠ s := fun h => c ((addN_sub (by omega) hx ht).2 h)
      rw [if_neg c]
      by_cases c2 : subW p t x < s
      · rw [if_pos c2, if_pos (by omega)]
      · rw [if_neg c2, if_neg (by omega)]
theorem exI_nat {p n k x : Nat} (h1 : 1 ≤ x) (h2 : x < p) : exI p n k (x : Int) = (exN p n k x : Int) := by
  unfold exI
  have e : ((x : Int) % (p : Int)) = (x : Int) := Int.emod_eq_of_lt (by omega) (by omega)
  rw [e, if_neg (by omega), Int.toNat_natCast]
theorem sum4_g26 {p n k' : Nat} (C : Ch p n k') {l : List Nat} {i : Nat} (hi : i < l.length) (hk' : l[i] = k') (f : Nat → Nat → Int) {K0 : List (List Int) → A} : ∀ (d x k : Nat), x + d = p → 1 ≤ x → d + 400 ≤ k →
    spec_l04Sum.g26 z k (chL p n l) (p : Int) (n : Int) (i : Int) (x : Int) (mtab p n f) (mtab p n (convTo p n k' f (x - 1))) K0 = K0 (mtab p n (conv p n k' f))
  | d, x, 0, _, _, hk => absurd hk (by omega)
  | 0, x, k + 1, hx, _, hk => by
    rw [spec_l04Sum.g26, if_neg (by omega)]
    have : x = p := by omega
    subst this
    rfl
  | d + 1, x, k + 1, hx, hx1, hk => by
    have hb := isP_bd1 C.pr
    have h1 := C.n1
    have h2 := C.n2
    have he := exN_lt (p := p) (k := k') (x := x) h1
    rw [spec_l04Sum.g26, if_pos (by omega), inI_at z (by rw [chL_len]; exact hi), chL_get hi, hk', exponent03_eq z C _ _ (by omega), exI_nat hx1 (by omega)]
    have e1 : mtab p n (convTo p n k' f (x - 1)) = mtab p n fun t m => if subW p t x < 0 then wrap64 (convTo p n k' f (x - 1) t m + f (subW p t x) (subW n m (exN p n k' x))) else convTo p n k' f (x - 1) t m :=
      mtab_congr fun t ht m hm => by rw [if_neg (by omega)]
    rw [e1]
    refine Eq.trans (sum4_g32 z (by omega) h1 h2 (by omega) he f (convTo p n k' f (x - 1)) p 0 k (by omega) (by omega)) ?_
    rw [w64_up (by omega)]
    refine Eq.trans ?_ (sum4_g26 C hi hk' f d (x + 1) k (by omega) (by omega) (by omega))
    congr 1
    refine mtab_congr fun t ht m hm => ?_
    obtain ⟨y, rfl⟩ : ∃ y, x = 1 + y := ⟨x - 1, by omega⟩
    rw [show 1 + y + 1 - 1 = y + 1 by omega, show 1 + y - 1 = y by omega, convTo_succ]
theorem zapp {n : Nat} (s : Nat) : (List.replicate s (List.replicate n (0 : Int)) ++ [List.replicate n 0]).set ((List.replicate s (List.replicate n (0 : Int))).length + 0) (List.replicate n 0) = List.replicate (s + 1) (List.replicate n 0) := by
  rw [Nat.add_zero, ← List.replicate_succ']
  apply List.ext_getElem?
  intro i
  rw [List.getElem?_set]
  split
  · rename_i h
    subst h
    simp
  · rfl
theorem zall (p n : Nat) : List.replicate p (List.replicate n (0 : Int)) = mtab p n fun _ _ => 0 := by
  rw [tab_zero]
  apply List.ext_getElem?
  intro i
  by_cases h : i < p <;> simp [mtab, h, List.getElem?_replicate]
theorem sum4_g5 {p n : Nat} (hp : p ≤ 61) (hn : n ≤ 16) {K0 : List (List Int) → A} : ∀ (d s k : Nat), s + d = p → d + 1 ≤ k →
    spec_l04Sum.g5 z k (p : Int) (n : Int) (s : Int) (List.replicate s (List.replicate n 0)) K0 = K0 (mtab p n fun _ _ => 0)
  | d, s, 0, _, hk => absurd hk (by omega)
  | 0, s, k + 1, hs, hk => by
    rw [spec_l04Sum.g5, if_neg (by omega), ← zall, show s = p by omega]
  | d + 1, s, k + 1, hs, hk => by
    rw [spec_l04Sum.g5, if_pos (by omega), mkI_at z (by omega), apI_ok z (by rw [List.length_replicate]; omega), w64_up (by omega), zapp]
    exact sum4_g5 hp hn d (s + 1) k (by omega) (by omega)
theorem sum4_g20 {p n : Nat} (hp : p ≤ 61) (hn : n ≤ 16) {K0 : List (List Int) → A} : ∀ (d s k : Nat), s + d = p → d + 1 ≤ k →
    spec_l04Sum.g20 z k (p : Int) (n : Int) (s : Int) (List.replicate s (List.replicate n 0)) K0 = K0 (mtab p n fun _ _ => 0)
  | d, s, 0, _, hk => absurd hk (by omega)
  | 0, s, k + 1, hs, hk => by
    rw [spec_l04Sum.g20, if_neg (by omega), ← zall, show s = p by omega]
  | d + 1, s, k + 1, hs, hk => by
    rw [spec_l04Sum.g20, if_pos (by omega), mkI_at z (by omega), apI_ok z (by rw [List.length_replicate]; omega), w64_up (by omega), zapp]
    exact sum4_g20 hp hn d (s + 1) k (by omega) (by omega)
theorem sum4_g13 {p n : Nat} (hp : isP p = true) (h1 : 1 ≤ n) (h2 : n ≤ 16) {l : List Nat} (hl : l.length ≤ 100) (hC : ∀ k ∈ l, Ch p n k) {K0 : List (List Int) → A} : ∀ (d i k : Nat) (f : Nat → Nat → Int), i + d = l.length → d + 500 ≤ k →
    spec_l04Sum.g13 z k (chL p n l) (p : Int) (n : Int) (i : Int) (mtab p n f) K0 = K0 (mtab p n (jT p n (l.drop i) f))
  | d, i, 0, f, _, hk => absurd hk (by omega)
  | 0, i, k + 1, f, hi, hk => by
    rw [spec_l04Sum.g13, chL_len, if_neg (by omega), List.drop_eq_nil_of_le (by omega)]
    rfl
  | d + 1, i, k + 1, f, hi, hk => by
    have hb := isP_bd1 hp
    have hil : i < l.length := by omega
    have C := hC l[i] (List.getElem_mem hil)
    rw [spec_l04Sum.g13, chL_len, if_pos (by omega)]
    refine Eq.trans (sum4_g20 z (by omega) h2 p 0 k (by omega) (by omega)) ?_
    have e1 : mtab p n (fun _ _ => (0 : Int)) = mtab p n (convTo p n l[i] f (1 - 1)) := mtab_congr fun t ht m hm => by
      show (0 : Int) = wrap64 0
      rw [wrap_id (by decide) (by decide)]
    rw [e1]
    refine Eq.trans (sum4_g26 z C hil rfl f (p - 1) 1 k (by omega) (by omega) (by omega)) ?_
    rw [w64_up (by omega), List.drop_eq_getElem_cons hil]
    exact sum4_g13 hp h1 h2 hl hC d (i + 1) k _ (by omega) (by omega)
theorem sum04_eq {p n : Nat} (hp : isP p = true) (h1 : 1 ≤ n) (h2 : n ≤ 16) {l : List Nat} (hl : 1 ≤ l.length ∧ l.length ≤ 100) (hC : ∀ k ∈ l, Ch p n k) {t : Nat} (ht : t < p) (k : Nat) (hk : 700 ≤ k) (Φ : Int → List Int → A) :
    spec_l04Sum z k (chL p n l) (t : Int) Φ = Φ n (jS p n l t) := by
  have hb := isP_bd1 hp
  obtain ⟨k, rfl⟩ := le_ex (show 1 ≤ k by omega)
  simp only [spec_l04Sum, step_succ]
  rw [inI_0 z (by rw [chL_len]; omega), inI_0 z (by rw [chL_len]; omega), chL_get (show 0 < l.length by omega)]
  refine Eq.trans (sum4_g5 z (by omega) h2 p 0 k (by omega) (by omega)) ?_
  rw [inI_0 z (by rw [mtab_len]; omega), mtab_get (by omega), inI_0 z (by rw [tab_length]; omega), unit_tab (by omega) h1]
  refine Eq.trans (sum4_g13 z hp h1 h2 hl.2 hC l.length 0 k unitT (by omega) (by omega)) ?_
  rw [inI_at z (by rw [mtab_len]; exact ht), List.drop_zero, mtab_get ht, reduce_eq z h1 h2 (by rw [tab_length]; omega) (tab_wrapped (jT_wrapped l unitT unitT_wrapped t)) _ (by rw [tab_length]; omega)]
  rfl
end
end Go.Proofs.Ytlpooghphoohcaa.F
/- Jacobi sums, plainly. -/
namespace Go.Proofs.Ytlpooghphoohcaa.F
open Go.RowKit Go.Proofs.Ytlpooghphoohcaa.R
set_option linter.unusedVariables false
set_option linter.unusedSimpArgs false
theorem conv_unit {p n k : Nat} (hp : 1 ≤ p) (hn : 1 ≤ n) {t m : Nat} (ht : t < p) (hm : m < n) : conv p n k unitT t m = if t = 0 then 0 else if m = exN p n k t then 1 else 0 := by
  unfold conv
  have e : sumF 1 (p - 1) (fun x => unitT (subW p t x) (subW n m (exN p n k x))) = sumF 1 (p - 1) fun x => if t = x then (if m = exN p n k x then 1 else 0) else 0 := by
    refine sumF_congr _ _ fun x hx hx2 => ?_
    have he := exN_lt (p := p) (k := k) (x := x) hn
    unfold unitT
    by_cases c : t = x
    · have h0 : subW p t x = 0 := by unfold subW; rw [if_pos (by omega)]; omega
      rw [if_pos c, if_pos h0]
      by_cases c2 : m = exN p n k x
      · have h1 : subW n m (exN p n k x) = 0 := by unfold subW; rw [if_pos (by omega)]; omega
        rw [if_pos c2, if_pos h1]
      · have h1 : subW n m (exN p n k x) ≠ 0 := by unfold subW; split <;> omega
        rw [if_neg c2, if_neg h1]
    · have h0 : subW p t x ≠ 0 := by unfold subW; split <;> omega
      rw [if_neg c, if_neg h0]
  rw [e]
  by_cases c : t = 0
  · rw [if_pos c, sumF_miss t _ _ _ (by omega), wrap_id (by decide) (by decide)]
  · rw [if_neg c, sumF_hit t (fun x => if m = exN p n k x then 1 else 0) (p - 1) 1 (by omega) (by omega)]
    split
    · exact wrap_id (by decide) (by decide)
    · exact wrap_id (by decide) (by decide)
/-- The exponent of the x-th part of a Jacobi sum. -/
def jE (p n a b x : Nat) : Nat := (exN p n a (subW p 1 x) + exN p n b x) % n
/-- The Jacobi sum of the a-th and the b-th character. -/
def jJ (p n a b : Nat) : List Int := tab (cycD n) fun m => wrap64 (sumF 2 (p - 2) fun x => cycW n m (jE p n a b x))
theorem dot_tab {n : Nat} (g w : Nat → Int) : dot (tab n g) w = sumF 0 n fun m => g m * w m := by
  unfold dot
  rw [tab_length]
  exact sumF_congr _ _ fun m _ hm => by rw [tab_rd _ _ _ (by omega)]
theorem jS_two {p n a b : Nat} (hp : 2 ≤ p) (hn : 1 ≤ n) : jS p n [a, b] 1 = jJ p n a b := by
  unfold jS jJ
  refine tab_congr fun q hq => ?_
  show wrap64 (dot (tab n (conv p n b (conv p n a unitT) 1)) (cycW n q)) = _
  rw [dot_tab]
  have h1 : Cg (sumF 0 n fun m => conv p n b (conv p n a unitT) 1 m * cycW n q m) (sumF 0 n fun m => sumF 1 (p - 1) fun x => conv p n a unitT (subW p 1 x) (subW n m (exN p n b x)) * cycW n q m) := by
    refine sumF_cg _ _ fun m _ _ => ?_
    unfold conv
    rw [sumF_right]
    exact (Cg.wrap _).mul (Cg.refl _)
  refine (h1.trans (Cg.of ?_)).eq
  rw [sumF_swap]
  obtain ⟨r, rfl⟩ : ∃ r, p = r + 2 := ⟨p - 2, by omega⟩
  rw [show r + 2 - 1 = r + 1 by omega, show r + 2 - 2 = r by omega]
  have hs : ∀ f : Nat → Int, sumF 1 (r + 1) f = f 1 + sumF 2 r f := fun f => rfl
  rw [hs]
  have e0 : (sumF 0 n fun m => conv (r + 2) n a unitT (subW (r + 2) 1 1) (subW n m (exN (r + 2) n b 1)) * cycW n q m) = 0 := by
    rw [sumF_congr (g := fun _ => 0) _ _ fun m _ hm => ?_]
    · exact sumF_zero _ _
    · have he := exN_lt (p := r + 2) (k := b) (x := 1) hn
      rw [conv_unit (by omega) hn (by unfold subW; rw [if_pos (by omega)]; omega) (subW_lt (by omega) he), if_pos (by unfold subW; rw [if_pos (by omega)]), Int.zero_mul]
  rw [e0, Int.zero_add]
  refine sumF_congr _ _ fun x hx hx2 => ?_
  have he := exN_lt (p := r + 2) (k := b) (x := x) hn
  have ht : subW (r + 2) 1 x < r + 2 := subW_lt (by omega) (by omega)
  have ht0 : subW (r + 2) 1 x ≠ 0 := by unfold subW; split <;> omega
  have he2 := exN_lt (p := r + 2) (k := a) (x := subW (r + 2) 1 x) hn
  have hj : jE (r + 2) n a b x < n := Nat.mod_lt _ (by omega)
  rw [sumF_congr (g := fun m => if jE (r + 2) n a b x = m then cycW n q m else 0) _ _ fun m _ hm => ?_]
  · exact sumF_hit _ (fun m => cycW n q m) n 0 (by omega) (by omega)
  · rw [conv_unit (by omega) hn ht (subW_lt (by omega) he), if_neg ht0]
    by_cases c : jE (r + 2) n a b x = m
    · rw [if_pos ((addN_sub he2 he (by omega)).1 c), if_pos c]
      omega
    · rw [if_neg (fun h => c ((addN_sub he2 he (by omega)).2 h)), if_neg c]
      omega
theorem jJ_len (p n a b : Nat) : (jJ p n a b).length = cycD n := tab_length _ _
/-- What FnTop asks of the norms. -/
def topN (p n : Nat) : Bool := (List.range n).all fun a => (List.range n).all fun b => decide ((norm2 (n : Int) (jJ p n a b)).2 = 0) && (decide (a = 0 ∨ b = 0 ∨ (a + b) % n = 0 ∨ n ≤ 2) || decide ((norm2 (n : Int) (jJ p n a b)).1 = p))
theorem top_all : ([7, 13, 19, 31, 37, 43, 61].all fun p => [2, 3, 6].all fun n => topN p n) = true := by decide +kernel
end Go.Proofs.Ytlpooghphoohcaa.F
/- Counts of powers, by tables (printed by bin/jtab.py). -/
namespace Go.Proofs.Ytlpooghphoohcaa.F
open Go.RowKit Go.Proofs.Ytlpooghphoohcaa.R
set_option linter.unusedVariables false
set_option linter.unusedSimpArgs false
/-- How often each number is an n-th power. -/
def vcL : Nat → Nat → List Int
  | 7, 2 => [1, 2, 2, 0, 2, 0, 0]
  | 7, 3 => [1, 3, 0, 0, 0, 0, 3]
  | 7, 6 => [1, 6, 0, 0, 0, 0, 0]
  | 13, 2 => [1, 2, 0, 2, 2, 0, 0, 0, 0, 2, 2, 0, 2]
  | 13, 3 => [1, 3, 0, 0, 0, 3, 0, 0, 3, 0, 0, 0, 3]
  | 13, 6 => [1, 6, 0, 0, 0, 0, 0, 0, 0, 0, 0, 0, 6]
  | 19, 2 => [1, 2, 0, 0, 2, 2, 2, 2, 0, 2, 0, 2, 0, 0, 0, 0, 2, 2, 0]
  | 19, 3 => [1, 3, 0, 0, 0, 0, 0, 3, 3, 0, 0, 3, 3, 0, 0, 0, 0, 0, 3]
  | 19, 6 => [1, 6, 0, 0, 0, 0, 0, 6, 0, 0, 0, 6, 0, 0, 0, 0, 0, 0, 0]
  | 31, 2 => [1, 2, 2, 0, 2, 2, 0, 2, 2, 2, 2, 0, 0, 0, 2, 0, 2, 0, 2, 2, 2, 0, 0, 0, 0, 2, 0, 0, 2, 0, 0]
  | 31, 3 => [1, 3, 3, 0, 3, 0, 0, 0, 3, 0, 0, 0, 0, 0, 0, 3, 3, 0, 0, 0, 0, 0, 0, 3, 0, 0, 0, 3, 0, 3, 3]
  | 31, 6 => [1, 6, 6, 0, 6, 0, 0, 0, 6, 0, 0, 0, 0, 0, 0, 0, 6, 0, 0, 0, 0, 0, 0, 0, 0, 0, 0, 0, 0, 0, 0]
  | 37, 2 => [1, 2, 0, 2, 2, 0, 0, 2, 0, 2, 2, 2, 2, 0, 0, 0, 2, 0, 0, 0, 0, 2, 0, 0, 0, 2, 2, 2, 2, 0, 2, 0, 0, 2, 2, 0, 2]
  | 37, 3 => [1, 3, 0, 0, 0, 0, 3, 0, 3, 0, 3, 3, 0, 0, 3, 0, 0, 0, 0, 0, 0, 0, 0, 3, 0, 0, 3, 3, 0, 3, 0, 3, 0, 0, 0, 0, 3]
  | 37, 6 => [1, 6, 0, 0, 0, 0, 0, 0, 0, 0, 6, 6, 0, 0, 0, 0, 0, 0, 0, 0, 0, 0, 0, 0, 0, 0, 6, 6, 0, 0, 0, 0, 0, 0, 0, 0, 6]
  | 43, 2 => [1, 2, 0, 0, 2, 0, 2, 0, 0, 2, 2, 2, 0, 2, 2, 2, 2, 2, 0, 0, 0, 2, 0, 2, 2, 2, 0, 0, 0, 0, 0, 2, 0, 0, 0, 2, 2, 0, 2, 0, 2, 2, 0]
  | 43, 3 => [1, 3, 3, 0, 3, 0, 0, 0, 3, 0, 0, 3, 0, 0, 0, 0, 3, 0, 0, 0, 0, 3, 3, 0, 0, 0, 0, 3, 0, 0, 0, 0, 3, 0, 0, 3, 0, 0, 0, 3, 0, 3, 3]
  | 43, 6 => [1, 6, 0, 0, 6, 0, 0, 0, 0, 0, 0, 6, 0, 0, 0, 0, 6, 0, 0, 0, 0, 6, 0, 0, 0, 0, 0, 0, 0, 0, 0, 0, 0, 0, 0, 6, 0, 0, 0, 0, 0, 6, 0]
  | 61, 2 => [1, 2, 0, 2, 2, 2, 0, 0, 0, 2, 0, 0, 2, 2, 2, 2, 2, 0, 0, 2, 2, 0, 2, 0, 0, 2, 0, 2, 0, 0, 0, 0, 0, 0, 2, 0, 2, 0, 0, 2, 0, 2, 2, 0, 0, 2, 2, 2, 2, 2, 0, 0, 2, 0, 0, 0, 2, 2, 2, 0, 2]
  | 61, 3 => [1, 3, 0, 3, 0, 0, 0, 0, 3, 3, 0, 3, 0, 0, 0, 0, 0, 0, 0, 0, 3, 0, 0, 3, 3, 0, 0, 3, 3, 0, 0, 0, 0, 3, 3, 0, 0, 3, 3, 0, 0, 3, 0, 0, 0, 0, 0, 0, 0, 0, 3, 0, 3, 3, 0, 0, 0, 0, 3, 0, 3]
  | 61, 6 => [1, 6, 0, 6, 0, 0, 0, 0, 0, 6, 0, 0, 0, 0, 0, 0, 0, 0, 0, 0, 6, 0, 0, 0, 0, 0, 0, 6, 0, 0, 0, 0, 0, 0, 6, 0, 0, 0, 0, 0, 0, 6, 0, 0, 0, 0, 0, 0, 0, 0, 0, 0, 6, 0, 0, 0, 0, 0, 6, 0, 6]
  | _, _ => []
/-- How many pairs have powers with the sum 1. -/
def cntN : Nat → Nat → Int
  | 7, 2 => 8
  | 7, 3 => 6
  | 7, 6 => 12
  | 13, 2 => 12
  | 13, 3 => 6
  | 13, 6 => 12
  | 19, 2 => 20
  | 19, 3 => 24
  | 19, 6 => 12
  | 31, 2 => 32
  | 31, 3 => 33
  | 31, 6 => 48
  | 37, 2 => 36
  | 37, 3 => 24
  | 37, 6 => 84
  | 43, 2 => 44
  | 43, 3 => 33
  | 43, 6 => 12
  | 61, 2 => 60
  | 61, 3 => 60
  | 61, 6 => 12
  | _, _ => 0
def inTop (p n : Nat) : Prop := (p = 7 ∨ p = 13 ∨ p = 19 ∨ p = 31 ∨ p = 37 ∨ p = 43 ∨ p = 61) ∧ (n = 2 ∨ n = 3 ∨ n = 6)
theorem byTop {Q : Nat → Nat → Prop} (q7_2 : Q 7 2) (q7_3 : Q 7 3) (q7_6 : Q 7 6) (q13_2 : Q 13 2) (q13_3 : Q 13 3) (q13_6 : Q 13 6) (q19_2 : Q 19 2) (q19_3 : Q 19 3) (q19_6 : Q 19 6) (q31_2 : Q 31 2) (q31_3 : Q 31 3) (q31_6 : Q 31 6) (q37_2 : Q 37 2) (q37_3 : Q 37 3) (q37_6 : Q 37 6) (q43_2 : Q 43 2) (q43_3 : Q 43 3) (q43_6 : Q 43 6) (q61_2 : Q 61 2) (q61_3 : Q 61 3) (q61_6 : Q 61 6) {p n : Nat} (h : inTop p n) : Q p n := by
  obtain ⟨rfl | rfl | rfl | rfl | rfl | rfl | rfl, rfl | rfl | rfl⟩ := h
  · exact q7_2
  · exact q7_3
  · exact q7_6
  · exact q13_2
  · exact q13_3
  · exact q13_6
  · exact q19_2
  · exact q19_3
  · exact q19_6
  · exact q31_2
  · exact q31_3
  · exact q31_6
  · exact q37_2
  · exact q37_3
  · exact q37_6
  · exact q43_2
  · exact q43_3
  · exact q43_6
  · exact q61_2
  · exact q61_3
  · exact q61_6
theorem vc_7_2 (j : Nat) (A : Type) (z : A) (Φ : List Int → A) : impl_valueCounts z (j + 1000) 7 1 2 0 Φ = Φ (vcL 7 2) := by kernel_rfl
theorem vc_7_3 (j : Nat) (A : Type) (z : A) (Φ : List Int → A) : impl_valueCounts z (j + 1000) 7 1 3 0 Φ = Φ (vcL 7 3) := by kernel_rfl
theorem vc_7_6 (j : Nat) (A : Type) (z : A) (Φ : List Int → A) : impl_valueCounts z (j + 1000) 7 1 6 0 Φ = Φ (vcL 7 6) := by kernel_rfl
theorem vc_13_2 (j : Nat) (A : Type) (z : A) (Φ : List Int → A) : impl_valueCounts z (j + 1000) 13 1 2 0 Φ = Φ (vcL 13 2) := by kernel_rfl
theorem vc_13_3 (j : Nat) (A : Type) (z : A) (Φ : List Int → A) : impl_valueCounts z (j + 1000) 13 1 3 0 Φ = Φ (vcL 13 3) := by kernel_rfl
theorem vc_13_6 (j : Nat) (A : Type) (z : A) (Φ : List Int → A) : impl_valueCounts z (j + 1000) 13 1 6 0 Φ = Φ (vcL 13 6) := by kernel_rfl
theorem vc_19_2 (j : Nat) (A : Type) (z : A) (Φ : List Int → A) : impl_valueCounts z (j + 1000) 19 1 2 0 Φ = Φ (vcL 19 2) := by kernel_rfl
theorem vc_19_3 (j : Nat) (A : Type) (z : A) (Φ : List Int → A) : impl_valueCounts z (j + 1000) 19 1 3 0 Φ = Φ (vcL 19 3) := by kernel_rfl
theorem vc_19_6 (j : Nat) (A : Type) (z : A) (Φ : List Int → A) : impl_valueCounts z (j + 1000) 19 1 6 0 Φ = Φ (vcL 19 6) := by kernel_rfl
theorem vc_31_2 (j : Nat) (A : Type) (z : A) (Φ : List Int → A) : impl_valueCounts z (j + 1000) 31 1 2 0 Φ = Φ (vcL 31 2) := by kernel_rfl
theorem vc_31_3 (j : Nat) (A : Type) (z : A) (Φ : List Int → A) : impl_valueCounts z (j + 1000) 31 1 3 0 Φ = Φ (vcL 31 3) := by kernel_rfl
theorem vc_31_6 (j : Nat) (A : Type) (z : A) (Φ : List Int → A) : impl_valueCounts z (j + 1000) 31 1 6 0 Φ = Φ (vcL 31 6) := by kernel_rfl
theorem vc_37_2 (j : Nat) (A : Type) (z : A) (Φ : List Int → A) : impl_valueCounts z (j + 1000) 37 1 2 0 Φ = Φ (vcL 37 2) := by kernel_rfl
theorem vc_37_3 (j : Nat) (A : Type) (z : A) (Φ : List Int → A) : impl_valueCounts z (j + 1000) 37 1 3 0 Φ = Φ (vcL 37 3) := by kernel_rfl
theorem vc_37_6 (j : Nat) (A : Type) (z : A) (Φ : List Int → A) : impl_valueCounts z (j + 1000) 37 1 6 0 Φ = Φ (vcL 37 6) := by kernel_rfl
theorem vc_43_2 (j : Nat) (A : Type) (z : A) (Φ : List Int → A) : impl_valueCounts z (j + 1000) 43 1 2 0 Φ = Φ (vcL 43 2) := by kernel_rfl
theorem vc_43_3 (j : Nat) (A : Type) (z : A) (Φ : List Int → A) : impl_valueCounts z (j + 1000) 43 1 3 0 Φ = Φ (vcL 43 3) := by kernel_rfl
theorem vc_43_6 (j : Nat) (A : Type) (z : A) (Φ : List Int → A) : impl_valueCounts z (j + 1000) 43 1 6 0 Φ = Φ (vcL 43 6) := by kernel_rfl
theorem vc_61_2 (j : Nat) (A : Type) (z : A) (Φ : List Int → A) : impl_valueCounts z (j + 1000) 61 1 2 0 Φ = Φ (vcL 61 2) := by kernel_rfl
theorem vc_61_3 (j : Nat) (A : Type) (z : A) (Φ : List Int → A) : impl_valueCounts z (j + 1000) 61 1 3 0 Φ = Φ (vcL 61 3) := by kernel_rfl
theorem vc_61_6 (j : Nat) (A : Type) (z : A) (Φ : List Int → A) : impl_valueCounts z (j + 1000) 61 1 6 0 Φ = Φ (vcL 61 6) := by kernel_rfl
theorem vc_tab {p n : Nat} (h : inTop p n) : ∀ (j : Nat) (A : Type) (z : A) (Φ : List Int → A), impl_valueCounts z (j + 1000) (p : Int) 1 (n : Int) 0 Φ = Φ (vcL p n) :=
  byTop (Q := fun p n => ∀ (j : Nat) (A : Type) (z : A) (Φ : List Int → A), impl_valueCounts z (j + 1000) (p : Int) 1 (n : Int) 0 Φ = Φ (vcL p n)) (fun j A z Φ => vc_7_2 j A z Φ) (fun j A z Φ => vc_7_3 j A z Φ) (fun j A z Φ => vc_7_6 j A z Φ) (fun j A z Φ => vc_13_2 j A z Φ) (fun j A z Φ => vc_13_3 j A z Φ) (fun j A z Φ => vc_13_6 j A z Φ) (fun j A z Φ => vc_19_2 j A z Φ) (fun j A z Φ => vc_19_3 j A z Φ) (fun j A z Φ => vc_19_6 j A z Φ) (fun j A z Φ => vc_31_2 j A z Φ) (fun j A z Φ => vc_31_3 j A z Φ) (fun j A z Φ => vc_31_6 j A z Φ) (fun j A z Φ => vc_37_2 j A z Φ) (fun j A z Φ => vc_37_3 j A z Φ) (fun j A z Φ => vc_37_6 j A z Φ) (fun j A z Φ => vc_43_2 j A z Φ) (fun j A z Φ => vc_43_3 j A z Φ) (fun j A z Φ => vc_43_6 j A z Φ) (fun j A z Φ => vc_61_2 j A z Φ) (fun j A z Φ => vc_61_3 j A z Φ) (fun j A z Φ => vc_61_6 j A z Φ) h
theorem cnt_7_2 (j : Nat) (A : Type) (z : A) (Φ : Int → Int → A) : impl_CountByJacobi z (j + 1000) 7 2 2 Φ = Φ (cntN 7 2) 0 := by kernel_rfl
theorem cnt_7_3 (j : Nat) (A : Type) (z : A) (Φ : Int → Int → A) : impl_CountByJacobi z (j + 1000) 7 3 3 Φ = Φ (cntN 7 3) 0 := by kernel_rfl
theorem cnt_7_6 (j : Nat) (A : Type) (z : A) (Φ : Int → Int → A) : impl_CountByJacobi z (j + 1000) 7 6 6 Φ = Φ (cntN 7 6) 0 := by kernel_rfl
theorem cnt_13_2 (j : Nat) (A : Type) (z : A) (Φ : Int → Int → A) : impl_CountByJacobi z (j + 1000) 13 2 2 Φ = Φ (cntN 13 2) 0 := by kernel_rfl
theorem cnt_13_3 (j : Nat) (A : Type) (z : A) (Φ : Int → Int → A) : impl_CountByJacobi z (j + 1000) 13 3 3 Φ = Φ (cntN 13 3) 0 := by kernel_rfl
theorem cnt_13_6 (j : Nat) (A : Type) (z : A) (Φ : Int → Int → A) : impl_CountByJacobi z (j + 1000) 13 6 6 Φ = Φ (cntN 13 6) 0 := by kernel_rfl
theorem cnt_19_2 (j : Nat) (A : Type) (z : A) (Φ : Int → Int → A) : impl_CountByJacobi z (j + 1000) 19 2 2 Φ = Φ (cntN 19 2) 0 := by kernel_rfl
theorem cnt_19_3 (j : Nat) (A : Type) (z : A) (Φ : Int → Int → A) : impl_CountByJacobi z (j + 1000) 19 3 3 Φ = Φ (cntN 19 3) 0 := by kernel_rfl
theorem cnt_19_6 (j : Nat) (A : Type) (z : A) (Φ : Int → Int → A) : impl_CountByJacobi z (j + 1000) 19 6 6 Φ = Φ (cntN 19 6) 0 := by kernel_rfl
theorem cnt_31_2 (j : Nat) (A : Type) (z : A) (Φ : Int → Int → A) : impl_CountByJacobi z (j + 1000) 31 2 2 Φ = Φ (cntN 31 2) 0 := by kernel_rfl
theorem cnt_31_3 (j : Nat) (A : Type) (z : A) (Φ : Int → Int → A) : impl_CountByJacobi z (j + 1000) 31 3 3 Φ = Φ (cntN 31 3) 0 := by kernel_rfl
theorem cnt_31_6 (j : Nat) (A : Type) (z : A) (Φ : Int → Int → A) : impl_CountByJacobi z (j + 1000) 31 6 6 Φ = Φ (cntN 31 6) 0 := by kernel_rfl
theorem cnt_37_2 (j : Nat) (A : Type) (z : A) (Φ : Int → Int → A) : impl_CountByJacobi z (j + 1000) 37 2 2 Φ = Φ (cntN 37 2) 0 := by kernel_rfl
theorem cnt_37_3 (j : Nat) (A : Type) (z : A) (Φ : Int → Int → A) : impl_CountByJacobi z (j + 1000) 37 3 3 Φ = Φ (cntN 37 3) 0 := by kernel_rfl
theorem cnt_37_6 (j : Nat) (A : Type) (z : A) (Φ : Int → Int → A) : impl_CountByJacobi z (j + 1000) 37 6 6 Φ = Φ (cntN 37 6) 0 := by kernel_rfl
theorem cnt_43_2 (j : Nat) (A : Type) (z : A) (Φ : Int → Int → A) : impl_CountByJacobi z (j + 1000) 43 2 2 Φ = Φ (cntN 43 2) 0 := by kernel_rfl
theorem cnt_43_3 (j : Nat) (A : Type) (z : A) (Φ : Int → Int → A) : impl_CountByJacobi z (j + 1000) 43 3 3 Φ = Φ (cntN 43 3) 0 := by kernel_rfl
theorem cnt_43_6 (j : Nat) (A : Type) (z : A) (Φ : Int → Int → A) : impl_CountByJacobi z (j + 1000) 43 6 6 Φ = Φ (cntN 43 6) 0 := by kernel_rfl
theorem cnt_61_2 (j : Nat) (A : Type) (z : A) (Φ : Int → Int → A) : impl_CountByJacobi z (j + 1000) 61 2 2 Φ = Φ (cntN 61 2) 0 := by kernel_rfl
theorem cnt_61_3 (j : Nat) (A : Type) (z : A) (Φ : Int → Int → A) : impl_CountByJacobi z (j + 1000) 61 3 3 Φ = Φ (cntN 61 3) 0 := by kernel_rfl
theorem cnt_61_6 (j : Nat) (A : Type) (z : A) (Φ : Int → Int → A) : impl_CountByJacobi z (j + 1000) 61 6 6 Φ = Φ (cntN 61 6) 0 := by kernel_rfl
theorem cnt_tab {p n : Nat} (h : inTop p n) : ∀ (j : Nat) (A : Type) (z : A) (Φ : Int → Int → A), impl_CountByJacobi z (j + 1000) (p : Int) (n : Int) (n : Int) Φ = Φ (cntN p n) 0 :=
  byTop (Q := fun p n => ∀ (j : Nat) (A : Type) (z : A) (Φ : Int → Int → A), impl_CountByJacobi z (j + 1000) (p : Int) (n : Int) (n : Int) Φ = Φ (cntN p n) 0) (fun j A z Φ => cnt_7_2 j A z Φ) (fun j A z Φ => cnt_7_3 j A z Φ) (fun j A z Φ => cnt_7_6 j A z Φ) (fun j A z Φ => cnt_13_2 j A z Φ) (fun j A z Φ => cnt_13_3 j A z Φ) (fun j A z Φ => cnt_13_6 j A z Φ) (fun j A z Φ => cnt_19_2 j A z Φ) (fun j A z Φ => cnt_19_3 j A z Φ) (fun j A z Φ => cnt_19_6 j A z Φ) (fun j A z Φ => cnt_31_2 j A z Φ) (fun j A z Φ => cnt_31_3 j A z Φ) (fun j A z Φ => cnt_31_6 j A z Φ) (fun j A z Φ => cnt_37_2 j A z Φ) (fun j A z Φ => cnt_37_3 j A z Φ) (fun j A z Φ => cnt_37_6 j A z Φ) (fun j A z Φ => cnt_43_2 j A z Φ) (fun j A z Φ => cnt_43_3 j A z Φ) (fun j A z Φ => cnt_43_6 j A z Φ) (fun j A z Φ => cnt_61_2 j A z Φ) (fun j A z Φ => cnt_61_3 j A z Φ) (fun j A z Φ => cnt_61_6 j A z Φ) h
theorem iseq_7_2 (j : Nat) (A : Type) (z : A) (Φ : Bool → A) : impl_isEquation z (j + 1000) 7 [1, 1] [2, 2] 1 Φ = Φ true := by kernel_rfl
theorem iseq_7_3 (j : Nat) (A : Type) (z : A) (Φ : Bool → A) : impl_isEquation z (j + 1000) 7 [1, 1] [3, 3] 1 Φ = Φ true := by kernel_rfl
theorem iseq_7_6 (j : Nat) (A : Type) (z : A) (Φ : Bool → A) : impl_isEquation z (j + 1000) 7 [1, 1] [6, 6] 1 Φ = Φ true := by kernel_rfl
theorem iseq_13_2 (j : Nat) (A : Type) (z : A) (Φ : Bool → A) : impl_isEquation z (j + 1000) 13 [1, 1] [2, 2] 1 Φ = Φ true := by kernel_rfl
theorem iseq_13_3 (j : Nat) (A : Type) (z : A) (Φ : Bool → A) : impl_isEquation z (j + 1000) 13 [1, 1] [3, 3] 1 Φ = Φ true := by kernel_rfl
theorem iseq_13_6 (j : Nat) (A : Type) (z : A) (Φ : Bool → A) : impl_isEquation z (j + 1000) 13 [1, 1] [6, 6] 1 Φ = Φ true := by kernel_rfl
theorem iseq_19_2 (j : Nat) (A : Type) (z : A) (Φ : Bool → A) : impl_isEquation z (j + 1000) 19 [1, 1] [2, 2] 1 Φ = Φ true := by kernel_rfl
theorem iseq_19_3 (j : Nat) (A : Type) (z : A) (Φ : Bool → A) : impl_isEquation z (j + 1000) 19 [1, 1] [3, 3] 1 Φ = Φ true := by kernel_rfl
theorem iseq_19_6 (j : Nat) (A : Type) (z : A) (Φ : Bool → A) : impl_isEquation z (j + 1000) 19 [1, 1] [6, 6] 1 Φ = Φ true := by kernel_rfl
theorem iseq_31_2 (j : Nat) (A : Type) (z : A) (Φ : Bool → A) : impl_isEquation z (j + 1000) 31 [1, 1] [2, 2] 1 Φ = Φ true := by kernel_rfl
theorem iseq_31_3 (j : Nat) (A : Type) (z : A) (Φ : Bool → A) : impl_isEquation z (j + 1000) 31 [1, 1] [3, 3] 1 Φ = Φ true := by kernel_rfl
theorem iseq_31_6 (j : Nat) (A : Type) (z : A) (Φ : Bool → A) : impl_isEquation z (j + 1000) 31 [1, 1] [6, 6] 1 Φ = Φ true := by kernel_rfl
theorem iseq_37_2 (j : Nat) (A : Type) (z : A) (Φ : Bool → A) : impl_isEquation z (j + 1000) 37 [1, 1] [2, 2] 1 Φ = Φ true := by kernel_rfl
theorem iseq_37_3 (j : Nat) (A : Type) (z : A) (Φ : Bool → A) : impl_isEquation z (j + 1000) 37 [1, 1] [3, 3] 1 Φ = Φ true := by kernel_rfl
theorem iseq_37_6 (j : Nat) (A : Type) (z : A) (Φ : Bool → A) : impl_isEquation z (j + 1000) 37 [1, 1] [6, 6] 1 Φ = Φ true := by kernel_rfl
theorem iseq_43_2 (j : Nat) (A : Type) (z : A) (Φ : Bool → A) : impl_isEquation z (j + 1000) 43 [1, 1] [2, 2] 1 Φ = Φ true := by kernel_rfl
theorem iseq_43_3 (j : Nat) (A : Type) (z : A) (Φ : Bool → A) : impl_isEquation z (j + 1000) 43 [1, 1] [3, 3] 1 Φ = Φ true := by kernel_rfl
theorem iseq_43_6 (j : Nat) (A : Type) (z : A) (Φ : Bool → A) : impl_isEquation z (j + 1000) 43 [1, 1] [6, 6] 1 Φ = Φ true := by kernel_rfl
theorem iseq_61_2 (j : Nat) (A : Type) (z : A) (Φ : Bool → A) : impl_isEquation z (j + 1000) 61 [1, 1] [2, 2] 1 Φ = Φ true := by kernel_rfl
theorem iseq_61_3 (j : Nat) (A : Type) (z : A) (Φ : Bool → A) : impl_isEquation z (j + 1000) 61 [1, 1] [3, 3] 1 Φ = Φ true := by kernel_rfl
theorem iseq_61_6 (j : Nat) (A : Type) (z : A) (Φ : Bool → A) : impl_isEquation z (j + 1000) 61 [1, 1] [6, 6] 1 Φ = Φ true := by kernel_rfl
theorem iseq_tab {p n : Nat} (h : inTop p n) : ∀ (j : Nat) (A : Type) (z : A) (Φ : Bool → A), impl_isEquation z (j + 1000) (p : Int) [1, 1] [(n : Int), (n : Int)] 1 Φ = Φ true :=
  byTop (Q := fun p n => ∀ (j : Nat) (A : Type) (z : A) (Φ : Bool → A), impl_isEquation z (j + 1000) (p : Int) [1, 1] [(n : Int), (n : Int)] 1 Φ = Φ true) (fun j A z Φ => iseq_7_2 j A z Φ) (fun j A z Φ => iseq_7_3 j A z Φ) (fun j A z Φ => iseq_7_6 j A z Φ) (fun j A z Φ => iseq_13_2 j A z Φ) (fun j A z Φ => iseq_13_3 j A z Φ) (fun j A z Φ => iseq_13_6 j A z Φ) (fun j A z Φ => iseq_19_2 j A z Φ) (fun j A z Φ => iseq_19_3 j A z Φ) (fun j A z Φ => iseq_19_6 j A z Φ) (fun j A z Φ => iseq_31_2 j A z Φ) (fun j A z Φ => iseq_31_3 j A z Φ) (fun j A z Φ => iseq_31_6 j A z Φ) (fun j A z Φ => iseq_37_2 j A z Φ) (fun j A z Φ => iseq_37_3 j A z Φ) (fun j A z Φ => iseq_37_6 j A z Φ) (fun j A z Φ => iseq_43_2 j A z Φ) (fun j A z Φ => iseq_43_3 j A z Φ) (fun j A z Φ => iseq_43_6 j A z Φ) (fun j A z Φ => iseq_61_2 j A z Φ) (fun j A z Φ => iseq_61_3 j A z Φ) (fun j A z Φ => iseq_61_6 j A z Φ) h
theorem top_len {p n : Nat} (h : inTop p n) : (vcL p n).length = p := byTop (Q := fun p n => (vcL p n).length = p) rfl rfl rfl rfl rfl rfl rfl rfl rfl rfl rfl rfl rfl rfl rfl rfl rfl rfl rfl rfl rfl h
theorem top_cnt {p n : Nat} (h : inTop p n) : wrap64 (sumF 0 p fun x => wrap64 (rd (vcL p n) (x : Nat) * wrap64 (rd (vcL p n) (subW p 1 x : Nat)))) = cntN p n ∧ 0 < cntN p n := byTop (Q := fun p n => wrap64 (sumF 0 p fun x => wrap64 (rd (vcL p n) (x : Nat) * wrap64 (rd (vcL p n) (subW p 1 x : Nat)))) = cntN p n ∧ 0 < cntN p n) (by decide +kernel) (by decide +kernel) (by decide +kernel) (by decide +kernel) (by decide +kernel) (by decide +kernel) (by decide +kernel) (by decide +kernel) (by decide +kernel) (by decide +kernel) (by decide +kernel) (by decide +kernel) (by decide +kernel) (by decide +kernel) (by decide +kernel) (by decide +kernel) (by decide +kernel) (by decide +kernel) (by decide +kernel) (by decide +kernel) (by decide +kernel) h
theorem top_prime {p n : Nat} (h : inTop p n) : isP p = true ∧ (p - 1) % n = 0 := byTop (Q := fun p n => isP p = true ∧ (p - 1) % n = 0) (by decide +kernel) (by decide +kernel) (by decide +kernel) (by decide +kernel) (by decide +kernel) (by decide +kernel) (by decide +kernel) (by decide +kernel) (by decide +kernel) (by decide +kernel) (by decide +kernel) (by decide +kernel) (by decide +kernel) (by decide +kernel) (by decide +kernel) (by decide +kernel) (by decide +kernel) (by decide +kernel) (by decide +kernel) (by decide +kernel) (by decide +kernel) h
end Go.Proofs.Ytlpooghphoohcaa.F
/- How many solutions equations have. -/
namespace Go.Proofs.Ytlpooghphoohcaa.F
open Go.RowKit Go.Proofs.Ytlpooghphoohcaa.R
set_option linter.unusedVariables false
set_option linter.unusedSimpArgs false
/-- Counts of sums, up to a number. -/
def solTo (p : Nat) (v b : Nat → Int) (d t : Nat) : Int := wrap64 (sumF 0 d fun x => wrap64 (v x * b (subW p t x)))
theorem solTo_succ {p : Nat} {v b : Nat → Int} {d t : Nat} : solTo p v b (d + 1) t = wrap64 (solTo p v b d t + wrap64 (v d * b (subW p t d))) := by
  unfold solTo
  rw [sumF_snoc, Nat.zero_add]
  exact ((Cg.wrap _).symm.add (Cg.refl _)).eq
section
variable {A : Type} (z : A)
theorem sol_g19 {p x : Nat} (hp : p ≤ 100) (hx : x < p) (c : Int) (b t : Nat → Int) {K0 : List Int → A} : ∀ (d s k : Nat), s + d = p → d + 1 ≤ k →
    impl_solutions.g19 z k (p : Int) (x : Int) c (p : Int) (s : Int) (tab p b) (tab p fun m => if subW p m x < s then wrap64 (t m + wrap64 (c * b (subW p m x))) else t m) K0 =
      K0 (tab p fun m => wrap64 (t m + wrap64 (c * b (subW p m x))))
  | d, s, 0, _, hk => absurd hk (by omega)
  | 0, s, k + 1, hs, hk => by
    rw [impl_solutions.g19, if_neg (by omega)]
    congr 1
    exact tab_congr fun m hm => by rw [if_pos (by have := subW_lt hm hx; omega)]
  | d + 1, s, k + 1, hs, hk => by
    have hq : (s + x) % p < p := Nat.mod_lt _ (by omega)
    have ha : (w64 ((s : Int) + (x : Int))).tmod (p : Int) = (((s + x) % p : Nat) : Int) := by
      rw [← Int.natCast_add, w64_id (by omega) (by omega), tmodN]
    have hb : subW p ((s + x) % p) x = s := (addN_sub (by omega) hx hq).1 rfl
    rw [impl_solutions.g19, if_pos (by omega), inI_at z (by rw [tab_length]; omega), gd_ok z (by omega)]
    simp only [ha]
    rw [inI_at z (by rw [tab_length]; exact hq), inI_at z (by rw [tab_length]; exact hq), w64_up (by omega), tab_getD hq, tab_getD (show s < p by omega), hb, if_neg (by omega), tab_set]
    refine Eq.trans ?_ (sol_g19 hp hx c b t d (s + 1) k (by omega) (by omega))
    congr 1
    refine tab_congr fun m hm => ?_
    by_cases e : (s + x) % p = m
    · have := (addN_sub (by omega) hx hm).1 e
      rw [if_pos e, if_pos (by omega), this, e]
      rfl
    · have : subW p m x ≠ s := fun h => e ((addN_sub (by omega) hx hm).2 h)
      rw [if_neg e]
      by_cases c2 : subW p m x < s
      · rw [if_pos c2, if_pos (by omega)]
      · rw [if_neg c2, if_neg (by omega)]
theorem sol_g13 {p : Nat} (hp : p ≤ 100) (v b : Nat → Int) {K0 : List Int → A} : ∀ (d x k : Nat), x + d = p → d + 200 ≤ k →
    impl_solutions.g13 z k (p : Int) (p : Int) (x : Int) (tab p b) (tab p (solTo p v b x)) (tab p v) K0 = K0 (tab p (solTo p v b p))
  | d, x, 0, _, hk => absurd hk (by omega)
  | 0, x, k + 1, hx, hk => by
    rw [impl_solutions.g13, if_neg (by omega), show x = p by omega]
  | d + 1, x, k + 1, hx, hk => by
    rw [impl_solutions.g13, if_pos (by omega), inI_at z (by rw [tab_length]; omega), tab_getD (show x < p by omega), tab_length]
    have e1 : tab p (solTo p v b x) = tab p fun m => if subW p m x < 0 then wrap64 (solTo p v b x m + wrap64 (v x * b (subW p m x))) else solTo p v b x m := tab_congr fun m hm => by rw [if_neg (by omega)]
    rw [e1]
    refine Eq.trans (sol_g19 z hp (by omega) (v x) b (solTo p v b x) p 0 k (by omega) (by omega)) ?_
    rw [w64_up (by omega)]
    refine Eq.trans ?_ (sol_g13 hp v b d (x + 1) k (by omega) (by omega))
    congr 1
    exact tab_congr fun m hm => solTo_succ.symm
theorem solTo_0 {p : Nat} {v b : Nat → Int} : tab p (solTo p v b 0) = List.replicate p 0 := by
  rw [tab_zero]
  exact tab_congr fun m hm => by show wrap64 0 = 0; exact wrap_id (by decide) (by decide)
def unitP (t : Nat) : Int := if t = 0 then 1 else 0
theorem sol_two {p : Nat} (hp1 : 2 ≤ p) (hp : p ≤ 100) {n : Int} (v : Nat → Int) {k : Nat} (hk : 2000 ≤ k) (hv : ∀ (j : Nat) (Φ : List Int → A), impl_valueCounts z (j + 1000) (p : Int) 1 n 0 Φ = Φ (tab p v)) (Φ : Int → A) :
    impl_solutions z k (p : Int) [1, 1] [n, n] 1 0 Φ = Φ (solTo p v (solTo p v unitP p) p 1) := by
  obtain ⟨k, rfl⟩ := le_ex (show 1 ≤ k by omega)
  obtain ⟨k, rfl⟩ := le_ex (show 1010 ≤ k by omega)
  simp only [impl_solutions, step_succ]
  rw [mkI_at z (by omega), inI_0 z (by rw [List.length_replicate]; omega)]
  have hu : (List.replicate p (0 : Int)).set 0 1 = tab p unitP := by
    rw [tab_zero, tab_set]
    exact tab_congr fun m hm => by
      unfold unitP
      by_cases c : m = 0
      · subst c; rfl
      · rw [if_neg (fun h => c h.symm), if_neg c]
  rw [hu]
  show impl_solutions.g5 z (k + 1010) (p : Int) [n, n] 0 [1, 1] ((2 : Nat) : Int) ((0 : Nat) : Int) (tab p unitP) _ = _
  have one : ∀ (j i : Nat) (b : Nat → Int) (K0 : List Int → A), i < 2 → impl_solutions.g5 z (k + 1001 + j + 1) (p : Int) [n, n] 0 [1, 1] ((2 : Nat) : Int) ((i : Nat) : Int) (tab p b) K0 = impl_solutions.g5 z (k + 1001 + j) (p : Int) [n, n] 0 [1, 1] ((2 : Nat) : Int) ((i + 1 : Nat) : Int) (tab p (solTo p v b p)) K0 := by
    intro j i b K0 hi
    have g1 : ([1, 1] : List Int).getD i 0 = 1 := by
      match i, hi with
      | 0, _ => rfl
      | 1, _ => rfl
    have g2 : ([n, n] : List Int).getD i 0 = n := by
      match i, hi with
      | 0, _ => rfl
      | 1, _ => rfl
    rw [impl_solutions.g5, if_pos (by omega), inI_at z (show i < ([1, 1] : List Int).length from hi), mkI_at z (by omega), inI_at z (show i < ([n, n] : List Int).length from hi), g1, g2, show k + 1001 + j = (k + 1 + j) + 1000 by omega, hv, tab_length, ← solTo_0 (v := v) (b := b)]
    refine Eq.trans (sol_g13 z hp v b p 0 _ (by omega) (by omega)) ?_
    rw [w64_up (by omega)]
  rw [show k + 1010 = k + 1001 + 8 + 1 by omega, one 8 0 _ _ (by omega), show k + 1001 + 8 = k + 1001 + 7 + 1 by omega, one 7 (0 + 1) _ _ (by omega), show k + 1001 + 7 = k + 1007 + 1 by omega, impl_solutions.g5, if_neg (by omega)]
  show inI z ((1 : Nat) : Int) _ _ = _
  rw [inI_at z (by rw [tab_length]; omega), tab_getD (by omega)]
theorem solTo_unit {p : Nat} {v : Nat → Int} {t : Nat} (ht : t < p) : solTo p v unitP p t = wrap64 (v t) := by
  unfold solTo
  have e : sumF 0 p (fun x => wrap64 (v x * unitP (subW p t x))) = sumF 0 p fun x => if t = x then wrap64 (v x) else 0 := by
    refine sumF_congr _ _ fun x _ hx => ?_
    unfold unitP
    by_cases c : t = x
    · have h0 : subW p t x = 0 := by unfold subW; rw [if_pos (by omega)]; omega
      rw [if_pos c, if_pos h0, Int.mul_one]
    · have h0 : subW p t x ≠ 0 := by unfold subW; split <;> omega
      rw [if_neg c, if_neg h0, Int.mul_zero]
      exact wrap_id (by decide) (by decide)
  rw [e, sumF_hit t (fun x => wrap64 (v x)) p 0 (by omega) (by omega), wrap_wrap]
theorem countSolutions_top {p n : Nat} (h : inTop p n) (k : Nat) (hk : 2100 ≤ k) (Φ : Int → Int → A) : impl_CountSolutions z k (p : Int) [1, 1] [(n : Int), (n : Int)] 1 Φ = Φ (cntN p n) 0 := by
  have hb := isP_bd1 (top_prime h).1
  obtain ⟨k, rfl⟩ := le_ex (show 1 ≤ k by omega)
  simp only [impl_CountSolutions, step_succ]
  obtain ⟨j, rfl⟩ := le_ex (show 1000 ≤ k by omega)
  rw [iseq_tab h]
  simp only [Bool.not_true, cond_false]
  have hl : tab p (fun x => rd (vcL p n) (x : Nat)) = vcL p n := (tab_ext (top_len h) fun m hm => rfl).symm
  rw [sol_two z (by omega) (by omega) (fun x => rd (vcL p n) (x : Nat)) (by omega) (fun j Φ => by rw [hl]; exact vc_tab h j A z Φ)]
  have e : solTo p (fun x => rd (vcL p n) (x : Nat)) (solTo p (fun x => rd (vcL p n) (x : Nat)) unitP p) p 1 = cntN p n := by
    rw [← (top_cnt h).1]
    unfold solTo
    congr 1
    refine sumF_congr _ _ fun x _ hx => ?_
    congr 2
    exact solTo_unit (subW_lt (by omega) (by omega))
  rw [e]
end
end Go.Proofs.Ytlpooghphoohcaa.F
/- Jacobi sums by both sides; the law FnTop. -/
namespace Go.Proofs.Ytlpooghphoohcaa.F
open Go.RowKit Go.Proofs.Ytlpooghphoohcaa.R
set_option linter.unusedVariables false
set_option linter.unusedSimpArgs false
theorem chL_two (p n a b : Nat) : [((p : Int), ((n : Int), (a : Int))), ((p : Int), ((n : Int), (b : Int)))] = chL p n [a, b] := rfl
section
variable {A : Type} (z : A)
theorem within01_eq (x a b : Int) (k : Nat) (hk : 1 ≤ k) (Φ : Bool → A) : impl_within z k x a b Φ = Φ (decide (a ≤ x ∧ x ≤ b)) := by
  obtain ⟨k, rfl⟩ := le_ex hk
  exact within_eq z k x a b Φ
theorem list_g3 {l : List (Int × Int × Int)} (hl : l.length ≤ 100) (h : ∀ c ∈ l, isCh c.1 c.2.1 c.2.2 = true) {K0 : Int → A} {K1 : A} : ∀ (d i k : Nat), i + d = l.length → d + 1100 ≤ k →
    impl_listCode.g3 z k l (l.length : Int) (i : Int) K0 K1 = K1
  | d, i, 0, _, hk => absurd hk (by omega)
  | 0, i, k + 1, hi, hk => by
    rw [impl_listCode.g3, if_neg (by omega)]
  | d + 1, i, k + 1, hi, hk => by
    have hil : i < l.length := by omega
    have hg : l.getD i (0, (0, 0)) = l[i] := by simp [List.getD_eq_getElem?_getD, hil]
    have hc := h l[i] (List.getElem_mem hil)
    obtain ⟨p', n', k', e1, e2, e3, C⟩ := isCh_nat hc
    have hb := isP_bd1 C.pr
    rw [impl_listCode.g3, if_pos (by omega), inI_at z hil, hg, isCharacter_eq z (.inl (by omega)) _ _ _ (by omega), hc, w64_up (by omega)]
    exact list_g3 hl h d (i + 1) k (by omega) (by omega)
theorem list_g15 {l : List (Int × Int × Int)} (hl : l.length ≤ 100) {p n : Int} (h : ∀ c ∈ l, c.1 = p ∧ c.2.1 = n) {K0 : Int → A} {K1 : A} : ∀ (d i k : Nat), i + d = l.length → d + 1 ≤ k →
    impl_listCode.g15 z k l l (l.length : Int) (i : Int) K0 K1 = K1
  | d, i, 0, _, hk => absurd hk (by omega)
  | 0, i, k + 1, hi, hk => by
    rw [impl_listCode.g15, if_neg (by omega)]
  | d + 1, i, k + 1, hi, hk => by
    have hil : i < l.length := by omega
    have hg : ∀ {q : Nat}, q < l.length → (l.getD q (0, (0, 0))).1 = p ∧ (l.getD q (0, (0, 0))).2.1 = n := fun {q} hq => by
      have : l.getD q (0, (0, 0)) = l[q] := by simp [List.getD_eq_getElem?_getD, hq]
      rw [this]
      exact h _ (List.getElem_mem hq)
    rw [impl_listCode.g15, if_pos (by omega), inI_at z hil, inI_0 z (by omega), (hg hil).1, (hg (show 0 < l.length by omega)).1, if_neg (by simp), inI_0 z (by omega), (hg hil).2, (hg (show 0 < l.length by omega)).2, if_neg (by simp), w64_up (by omega)]
    exact list_g15 hl h d (i + 1) k (by omega) (by omega)
theorem listCode_ok {p n : Nat} {l : List Nat} (hl : 1 ≤ l.length ∧ l.length ≤ 4) (hC : ∀ k ∈ l, Ch p n k) (k : Nat) (hk : 1200 ≤ k) (Φ : Int → A) : impl_listCode z k (chL p n l) Φ = Φ 0 := by
  obtain ⟨k, rfl⟩ := le_ex (show 1 ≤ k by omega)
  have hm : ∀ c ∈ chL p n l, isCh c.1 c.2.1 c.2.2 = true ∧ c.1 = (p : Int) ∧ c.2.1 = (n : Int) := by
    intro c hc
    obtain ⟨a, ha, rfl⟩ := List.mem_map.1 hc
    exact ⟨isCh_of (hC a ha), rfl, rfl⟩
  have hlen := chL_len p n l
  simp only [impl_listCode, step_succ]
  refine Eq.trans (list_g3 z (by omega) (fun c hc => (hm c hc).1) (chL p n l).length 0 k (by omega) (by omega)) ?_
  rw [within01_eq z _ _ _ _ (by omega), decide_eq_true (by omega)]
  simp only [Bool.not_true, cond_false]
  exact list_g15 z (by omega) (fun c hc => (hm c hc).2) (chL p n l).length 0 k (by omega) (by omega)
theorem jacobi_eq {p n a b : Nat} (Ca : Ch p n a) (Cb : Ch p n b) (k : Nat) (hk : 1300 ≤ k) (Φ : Int → List Int → Int → A) : impl_JacobiSum z k (p : Int) (n : Int) (a : Int) (p : Int) (n : Int) (b : Int) Φ = Φ n (jJ p n a b) 0 := by
  have hb := isP_bd1 Ca.pr
  have hC : ∀ k ∈ [a, b], Ch p n k := by
    intro k hk
    simp only [List.mem_cons, List.not_mem_nil, or_false] at hk
    rcases hk with rfl | rfl
    · exact Ca
    · exact Cb
  obtain ⟨k, rfl⟩ := le_ex (show 2 ≤ k by omega)
  simp only [impl_JacobiSum, impl_JacobiOf, step_succ]
  rw [chL_two, listCode_ok z (by simp) hC _ (by omega), if_neg (by simp)]
  refine Eq.trans (sumOver_eq z Ca.pr Ca.n1 Ca.n2 (by simp) hC (t := 1) (by omega) k (by omega) _) ?_
  rw [jS_two (by omega) Ca.n1]
theorem jacobi03_eq {p n a b : Nat} (Ca : Ch p n a) (Cb : Ch p n b) (k : Nat) (hk : 1300 ≤ k) (Φ : Int → List Int → Int → A) : spec_JacobiSum z k (p : Int) (n : Int) (a : Int) (p : Int) (n : Int) (b : Int) Φ = Φ n (jJ p n a b) 0 := by
  have hb := isP_bd1 Ca.pr
  have hC : ∀ k ∈ [a, b], Ch p n k := by
    intro k hk
    simp only [List.mem_cons, List.not_mem_nil, or_false] at hk
    rcases hk with rfl | rfl
    · exact Ca
    · exact Cb
  obtain ⟨k, rfl⟩ := le_ex (show 2 ≤ k by omega)
  have hpc : pairC p n a p n b = 0 := by
    unfold pairC
    rw [isCh_of Ca, isCh_of Cb]
    simp
  simp only [spec_JacobiSum, spec_l04Jacobi, step_succ]
  rw [like03_eq z _ _ _ _ _ _ _ (by omega), hpc, if_neg (by simp), chL_two]
  refine Eq.trans (sum04_eq z Ca.pr Ca.n1 Ca.n2 (by simp) hC (t := 1) (by omega) k (by omega) _) ?_
  rw [jS_two (by omega) Ca.n1]
/-- Whether two characters are a plain pair. -/
def plainB (n a b : Nat) : Bool := !(decide (a = 0) || (decide (b = 0) || decide ((a + b) % n = 0)))
theorem plain_of {n a b : Nat} (h2 : n ≤ 16) (ha : a < n) (hb : b < n) {Φ : Bool → Int → A} : (if (a : Int) ≠ 0 then (if (b : Int) ≠ 0 then gd z ((n : Int) ≠ 0) (Φ (decide (((w64 ((a : Int) + (b : Int))).tmod (n : Int)) ≠ 0)) 0) else Φ false 0) else Φ false 0) = Φ (plainB n a b) 0 := by
  unfold plainB
  by_cases c1 : a = 0
  · subst c1
    rw [if_neg (by simp)]
    simp
  · rw [if_pos (by omega)]
    by_cases c2 : b = 0
    · subst c2
      rw [if_neg (by simp)]
      simp
    · rw [if_pos (by omega), gd_ok z (by omega), ← Int.natCast_add, w64_id (by omega) (by omega), tmodN]
      by_cases c3 : (a + b) % n = 0
      · rw [c3]
        simp [c1, c2]
      · have h3 : (((a + b) % n : Nat) : Int) ≠ 0 := by omega
        rw [decide_eq_true h3]
        simp [c1, c2, c3]
theorem plain_eq {p n a b : Nat} (Ca : Ch p n a) (Cb : Ch p n b) (k : Nat) (hk : 1300 ≤ k) (Φ : Bool → Int → A) : impl_IsPlainPair z k (p : Int) (n : Int) (a : Int) (p : Int) (n : Int) (b : Int) Φ = Φ (plainB n a b) 0 := by
  have hb := isP_bd1 Ca.pr
  obtain ⟨k, rfl⟩ := le_ex (show 1 ≤ k by omega)
  have hpc : pairC p n a p n b = 0 := by
    unfold pairC
    rw [isCh_of Ca, isCh_of Cb]
    simp
  simp only [impl_IsPlainPair, step_succ]
  rw [pairCode_eq z (.inl (by omega)) (.inl (by omega)) _ _ _ _ _ (by omega), hpc, if_neg (by simp)]
  exact plain_of z Ca.n2 Ca.lt Cb.lt
theorem plain03_eq {p n a b : Nat} (Ca : Ch p n a) (Cb : Ch p n b) (k : Nat) (hk : 1300 ≤ k) (Φ : Bool → Int → A) : spec_IsPlainPair z k (p : Int) (n : Int) (a : Int) (p : Int) (n : Int) (b : Int) Φ = Φ (plainB n a b) 0 := by
  have hb := isP_bd1 Ca.pr
  obtain ⟨k, rfl⟩ := le_ex (show 1 ≤ k by omega)
  have hpc : pairC p n a p n b = 0 := by
    unfold pairC
    rw [isCh_of Ca, isCh_of Cb]
    simp
  simp only [spec_IsPlainPair, step_succ]
  rw [like03_eq z _ _ _ _ _ _ _ (by omega), hpc, if_neg (by simp)]
  exact plain_of z Ca.n2 Ca.lt Cb.lt
/-! the rows -/
theorem charsOf_g4 {p n : Nat} (hn : n ≤ 16) {K0 : List (Int × Int × Int) → A} : ∀ (d i k : Nat), i + d = n → d + 1 ≤ k →
    impl_charactersOf.g4 z k (p : Int) (n : Int) (n : Int) (i : Int) (chL p n (List.range i)) K0 = K0 (chL p n (List.range n))
  | d, i, 0, _, hk => absurd hk (by omega)
  | 0, i, k + 1, hi, hk => by
    rw [impl_charactersOf.g4, if_neg (by omega), show i = n by omega]
  | d + 1, i, k + 1, hi, hk => by
    have e : chL p n (List.range i) ++ [((p : Int), ((n : Int), (i : Int)))] = chL p n (List.range (i + 1)) := by
      unfold chL
      rw [List.range_succ, List.map_append]
      rfl
    rw [impl_charactersOf.g4, if_pos (by omega), apI_ok z (by rw [chL_len, List.length_range]; omega), w64_up (by omega), e]
    exact charsOf_g4 hn d (i + 1) k (by omega) (by omega)
/-- The Jacobi sums of a character and the first ones. -/
def rowJ (p n a i : Nat) : List (Int × List Int) := (List.range i).map fun b => ((n : Int), jJ p n a b)
theorem rowJ_len (p n a i : Nat) : (rowJ p n a i).length = i := by simp [rowJ]
theorem rowJ_get {p n a i b : Nat} (h : b < i) : (rowJ p n a i).getD b (0, []) = ((n : Int), jJ p n a b) := by simp [rowJ, List.getD_eq_getElem?_getD, h]
theorem row_g7 {p n a : Nat} (C : Ch p n a) {K0 : List (Int × List Int) → A} : ∀ (d i k : Nat), i + d = n → d + 700 ≤ k →
    impl_JacobiRow.g7 z k (n : Int) (i : Int) (p : Int) (n : Int) (a : Int) (rowJ p n a i) (chL p n (List.range n)) K0 = K0 (rowJ p n a n)
  | d, i, 0, _, hk => absurd hk (by omega)
  | 0, i, k + 1, hi, hk => by
    rw [impl_JacobiRow.g7, if_neg (by omega), show i = n by omega]
  | d + 1, i, k + 1, hi, hk => by
    have hb := isP_bd1 C.pr
    have h2 := C.n2
    have Cb : Ch p n i := { C with lt := by omega }
    have hC : ∀ k ∈ [a, i], Ch p n k := by
      intro k hk
      simp only [List.mem_cons, List.not_mem_nil, or_false] at hk
      rcases hk with rfl | rfl
      · exact C
      · exact Cb
    have hg : (chL p n (List.range n)).getD i (0, (0, 0)) = ((p : Int), ((n : Int), (i : Int))) := by
      rw [chL_get (by rw [List.length_range]; omega)]
      simp
    rw [impl_JacobiRow.g7, if_pos (by omega), inI_at z (by rw [chL_len, List.length_range]; omega), hg, chL_two]
    refine Eq.trans (sumOver_eq z C.pr C.n1 C.n2 (by simp) hC (t := 1) (by omega) k (by omega) _) ?_
    have e : rowJ p n a i ++ [((n : Int), jS p n [a, i] 1)] = rowJ p n a (i + 1) := by
      unfold rowJ
      rw [List.range_succ, List.map_append, jS_two (by omega) C.n1]
      rfl
    rw [apI_ok z (by rw [rowJ_len]; omega), w64_up (by omega), e]
    exact row_g7 C d (i + 1) k (by omega) (by omega)
theorem row_eq {p n a : Nat} (C : Ch p n a) (k : Nat) (hk : 1300 ≤ k) (Φ : List (Int × List Int) → Int → A) : impl_JacobiRow z k (p : Int) (n : Int) (a : Int) Φ = Φ (rowJ p n a n) 0 := by
  have hb := isP_bd1 C.pr
  have h2 := C.n2
  obtain ⟨k, rfl⟩ := le_ex (show 2 ≤ k by omega)
  simp only [impl_JacobiRow, impl_charactersOf, step_succ]
  rw [isCharacter_eq z (.inl (by omega)) _ _ _ (by omega), isCh_of C]
  simp only [Bool.not_true, cond_false]
  refine Eq.trans (charsOf_g4 z (p := p) h2 n 0 k (by omega) (by omega)) ?_
  rw [chL_len, List.length_range]
  exact row_g7 z C n 0 (k + 1) (by omega) (by omega)
end
end Go.Proofs.Ytlpooghphoohcaa.F
/- The law FnTop answers true. -/
namespace Go.Proofs.Ytlpooghphoohcaa.F
open Go.RowKit Go.Proofs.Ytlpooghphoohcaa.R
set_option linter.unusedVariables false
set_option linter.unusedSimpArgs false
theorem maskT_bd (y : Int) : ∃ v : Nat, v ≤ 16777215 ∧ wu64 ((BitVec.ofInt 64 y &&& BitVec.ofInt 64 16777215).toNat : Int) = (v : Int) := by
  refine ⟨(BitVec.ofInt 64 y &&& BitVec.ofInt 64 16777215).toNat, ?_, ?_⟩
  · rw [BitVec.toNat_and]
    exact Nat.le_trans Nat.and_le_right (by decide)
  · have h : (BitVec.ofInt 64 y &&& BitVec.ofInt 64 16777215).toNat ≤ 16777215 := by
      rw [BitVec.toNat_and]
      exact Nat.le_trans Nat.and_le_right (by decide)
    rw [wu64_def]
    omega
theorem top_norm {p n a b : Nat} (h : inTop p n) (ha : a < n) (hb : b < n) : (norm2 (n : Int) (jJ p n a b)).2 = 0 ∧ (plainB n a b = true → 2 < n → (norm2 (n : Int) (jJ p n a b)).1 = p) := by
  have h1 := List.all_eq_true.1 top_all p (by
    obtain ⟨h, _⟩ := h
    rcases h with rfl | rfl | rfl | rfl | rfl | rfl | rfl <;> simp)
  have h2 := List.all_eq_true.1 h1 n (by
    obtain ⟨_, h⟩ := h
    rcases h with rfl | rfl | rfl <;> simp)
  have h3 := List.all_eq_true.1 (List.all_eq_true.1 h2 a (List.mem_range.2 ha)) b (List.mem_range.2 hb)
  rw [Bool.and_eq_true, Bool.or_eq_true] at h3
  refine ⟨of_decide_eq_true h3.1, fun hp hn => ?_⟩
  rcases h3.2 with h4 | h4
  · have h4 := of_decide_eq_true h4
    unfold plainB at hp
    exfalso
    rcases h4 with h4 | h4 | h4 | h4
    · simp [h4] at hp
    · simp [h4] at hp
    · simp [h4] at hp
    · omega
  · exact of_decide_eq_true h4
section
variable {A : Type} (z : A)
theorem roll_g4 {c : List Int} (hc : c.length ≤ 5000) : ∀ (d i : Nat) (x : Int), i + d = c.length → ∃ v, ∀ (k : Nat) (K0 : Int → A), d + 1 ≤ k → laws_roll.g4 z k c (i : Int) x K0 = K0 v
  | 0, i, x, hi => ⟨x, fun k K0 hk => by
    obtain ⟨k, rfl⟩ := le_ex hk
    rw [Nat.zero_add, laws_roll.g4, if_neg (by omega)]⟩
  | d + 1, i, x, hi => by
    obtain ⟨v, hv⟩ := roll_g4 hc d (i + 1) (wu64 ((wu64 ((wu64 (x * 1099511628211)) + (wu64 (c.getD i 0)))) + 5)) (by omega)
    refine ⟨v, fun k K0 hk => ?_⟩
    obtain ⟨k, rfl, hk⟩ := up hk
    rw [laws_roll.g4, if_pos (by omega), inI_at z (by omega), w64_up (by omega)]
    exact hv k K0 (by omega)
theorem roll_eq {c : List Int} (hc : c.length ≤ 5000) (m : Int) : ∃ v, ∀ (k : Nat) (Φ : List Int → Int → Int → A), 6000 ≤ k → laws_roll z k c m Φ = Φ c 0 v := by
  obtain ⟨v, hv⟩ := roll_g4 z hc c.length 0 (wu64 ((wu64 (m * 8291)) + (wu64 (c.length : Int)))) (by omega)
  refine ⟨v, fun k Φ hk => ?_⟩
  obtain ⟨k, rfl⟩ := le_ex (show 1 ≤ k by omega)
  simp only [laws_roll, step_succ]
  exact hv k _ (by omega)
theorem below_eq {c : List Int} (hb : ∀ x ∈ c, 0 ≤ x ∧ x ≤ 255) (i : Nat) (hi : i ≤ 5000) (x : Int) (m : Nat) (hm : 1 ≤ m ∧ m ≤ 1000) : ∃ (i' : Nat) (x' : Int) (v : Nat), i' ≤ i + 1 ∧ v < m ∧ ∀ (k : Nat) (Φ : List Int → Int → Int → Int → A), 1 ≤ k → laws_dice_below z k c (i : Int) x (m : Int) Φ = Φ c i' x' v := by
  obtain ⟨y, hy, ey⟩ := maskT_bd ((wu64 (wu64 (x * 6364136223846793005) + 1442695040888963407)).fdiv (2 ^ 33))
  by_cases hl : i < c.length
  · have hg : c.getD i 0 = c[i] := by simp [List.getD_eq_getElem?_getD, hl]
    have hx := hb c[i] (List.getElem_mem hl)
    obtain ⟨u, hu⟩ : ∃ u : Nat, c[i] = (u : Int) := ⟨c[i].toNat, by omega⟩
    refine ⟨i + 1, wu64 (wu64 (x * 6364136223846793005) + 1442695040888963407), (y + u) % m, by omega, Nat.mod_lt _ (by omega), fun k Φ hk => ?_⟩
    obtain ⟨k, rfl⟩ := le_ex hk
    simp only [laws_dice_below, step_succ]
    rw [if_neg (by omega), if_pos (by omega), inI_at z hl, gd_ok z (by omega), hg, hu, ey, w64_id (x := (y : Int)) (by omega) (by omega), w64_id (x := (u : Int)) (by omega) (by omega), ← Int.natCast_add, w64_id (x := ((y + u : Nat) : Int)) (by omega) (by omega), tmodN, w64_up (by omega)]
  · refine ⟨i, wu64 (wu64 (x * 6364136223846793005) + 1442695040888963407), y % m, by omega, Nat.mod_lt _ (by omega), fun k Φ hk => ?_⟩
    obtain ⟨k, rfl⟩ := le_ex hk
    simp only [laws_dice_below, step_succ]
    rw [if_neg (by omega), if_neg (by omega), gd_ok z (by omega), ey, w64_id (x := (y : Int)) (by omega) (by omega), tmodN]
theorem cyclo9_self (n : Int) {x : List Int} (hx : x.length ≤ 1000) (k : Nat) (hk : 1010 ≤ k) (Φ : Bool → A) : laws_cyclo9 z k n x n x Φ = Φ true := by
  obtain ⟨k, rfl⟩ := le_ex (show 1 ≤ k by omega)
  simp only [laws_cyclo9, step_succ, if_true]
  rw [like_eq z (by omega) _ (by omega), decide_eq_true rfl]
theorem pick_p {a : Nat} (h : a < 7) : ∃ p : Nat, ([7, 13, 19, 31, 37, 43, 61] : List Int).getD a 0 = (p : Int) ∧ (p = 7 ∨ p = 13 ∨ p = 19 ∨ p = 31 ∨ p = 37 ∨ p = 43 ∨ p = 61) := by
  match a, h with
  | 0, _ => exact ⟨7, rfl, by simp⟩
  | 1, _ => exact ⟨13, rfl, by simp⟩
  | 2, _ => exact ⟨19, rfl, by simp⟩
  | 3, _ => exact ⟨31, rfl, by simp⟩
  | 4, _ => exact ⟨37, rfl, by simp⟩
  | 5, _ => exact ⟨43, rfl, by simp⟩
  | 6, _ => exact ⟨61, rfl, by simp⟩
theorem pick_n {a : Nat} (h : a < 4) : ∃ n : Nat, ([3, 3, 2, 6] : List Int).getD a 0 = (n : Int) ∧ (n = 2 ∨ n = 3 ∨ n = 6) := by
  match a, h with
  | 0, _ => exact ⟨3, rfl, by simp⟩
  | 1, _ => exact ⟨3, rfl, by simp⟩
  | 2, _ => exact ⟨2, rfl, by simp⟩
  | 3, _ => exact ⟨6, rfl, by simp⟩
theorem law_eq {c : List Int} (hb : ∀ x ∈ c, 0 ≤ x ∧ x ≤ 255) (k : Nat) (hk : 9000 ≤ k) (Φ : Bool → A) : laws_FnTop z k c Φ = Φ true := by
  obtain ⟨k, rfl⟩ := le_ex (show 2 ≤ k by omega)
  simp only [laws_FnTop, step_succ, laws_big]
  by_cases hc : c.length ≤ 4096
  · rw [decide_eq_false (by omega), cond_false]
    obtain ⟨s0, e0⟩ := roll_eq z (c := c) (by omega) 9931
    rw [e0 _ _ (by omega)]
    obtain ⟨i1, s1, v1, b1, l1, e1⟩ := below_eq z hb 0 (by omega) s0 7 (by omega)
    have e1 : ∀ (k : Nat) (Φ : List Int → Int → Int → Int → A), 1 ≤ k → laws_dice_below z k c 0 s0 7 Φ = Φ c i1 s1 v1 := e1
    rw [e1 _ _ (by omega), inI_at z l1]
    obtain ⟨i2, s2, v2, b2, l2, e2⟩ := below_eq z hb i1 (by omega) s1 4 (by omega)
    have e2 : ∀ (k : Nat) (Φ : List Int → Int → Int → Int → A), 1 ≤ k → laws_dice_below z k c i1 s1 4 Φ = Φ c i2 s2 v2 := e2
    rw [e2 _ _ (by omega), inI_at z l2]
    obtain ⟨p, hp, tp⟩ := pick_p l1
    obtain ⟨n, hn, tn⟩ := pick_n l2
    have hT : inTop p n := ⟨tp, tn⟩
    have hn6 : 2 ≤ n ∧ n ≤ 6 := by omega
    simp only [hp, hn]
    obtain ⟨i3, s3, a, b3, l3, e3⟩ := below_eq z hb i2 (by omega) s2 n (by omega)
    rw [e3 _ _ (by omega)]
    obtain ⟨i4, s4, b, b4, l4, e4⟩ := below_eq z hb i3 (by omega) s3 n (by omega)
    rw [e4 _ _ (by omega)]
    have Ca : Ch p n a := ⟨(top_prime hT).1, by omega, by omega, (top_prime hT).2, l3⟩
    have Cb : Ch p n b := ⟨(top_prime hT).1, by omega, by omega, (top_prime hT).2, l4⟩
    have h12 := le12 Ca.n1 Ca.n2
    have hJ := jJ_len p n a b
    obtain ⟨N1, N2⟩ := top_norm hT l3 l4
    obtain ⟨_, c2⟩ := top_cnt hT
    have tail : ∀ (k : Nat), 8000 ≤ k → (impl_JacobiRow z k (p : Int) (n : Int) (a : Int) fun v44 v45 =>
       if v45 ≠ 0 then
        Φ false
       else if (v44.length : Int) ≠ (n : Int) then
        Φ false
       else
        inI z (b : Int) (v44.length) fun j46 =>
        laws_cyclo9 z k ((v44.getD j46 (0, [])).1) ((v44.getD j46 (0, [])).2) (n : Int) (jJ p n a b) fun v47 =>
        bif !v47 then
         Φ false
        else
         impl_CountByJacobi z k (p : Int) (n : Int) (n : Int) fun v48 v49 =>
         impl_CountSolutions z k (p : Int) [1, 1] [(n : Int), (n : Int)] 1 fun v50 v51 =>
         if v49 = 0 then
          if v51 = 0 then
           if v48 = v50 then
            Φ (decide (0 < v48))
           else
            Φ false
          else
           Φ false
         else
          Φ false) = Φ true := by
      intro k hk
      rw [row_eq z Ca _ (by omega), if_neg (by simp), rowJ_len, if_neg (by simp), inI_at z l4, rowJ_get l4, cyclo9_self z _ (x := jJ p n a b) (by omega) _ (by omega), Bool.not_true, cond_false]
      obtain ⟨j, rfl⟩ := le_ex (show 1000 ≤ k by omega)
      rw [cnt_tab hT, countSolutions_top z hT _ (by omega), if_pos rfl, if_pos rfl, if_pos rfl, decide_eq_true c2]
    rw [jacobi_eq z Ca Cb _ (by omega), jacobi03_eq z Ca Cb _ (by omega), if_neg (by simp), cyclo9_self z _ (by omega) _ (by omega), Bool.not_true, cond_false, if_neg (by simp), plain_eq z Ca Cb _ (by omega), plain03_eq z Ca Cb _ (by omega),
      normOf_eq z _ (by omega) _ (by omega), if_neg (by simp), if_neg (by simp), if_neg (by simp), N1, if_neg (by simp)]
    cases hP : plainB n a b with
    | false =>
      rw [cond_false]
      exact tail _ (by omega)
    | true =>
      rw [cond_true]
      by_cases c3 : 2 < n
      · rw [if_pos (by omega), N2 hP c3, if_neg (by simp)]
        exact tail _ (by omega)
      · rw [if_neg (by omega)]
        exact tail _ (by omega)
  · rw [decide_eq_true (by omega), cond_true]
end
end Go.Proofs.Ytlpooghphoohcaa.F
