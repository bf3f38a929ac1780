/- Facts on what the printed functions tell. -/
import Derived.Test.YtefdcoeidpbcjaaZF1
import Derived.Test.YtefdcoeidpbcjaaZV
/- Facts on the printed functions of the first layer: ranges, divisors, totients, lists. -/
namespace Go.Proofs.Ytefdcoeidpbcjaa.F
open Go.RowKit Go.Proofs.Ytefdcoeidpbcjaa.R
set_option linter.unusedVariables false
set_option linter.unusedSimpArgs false
theorem by16 {P : Nat → Prop} (h1 : P 1) (h2 : P 2) (h3 : P 3) (h4 : P 4) (h5 : P 5) (h6 : P 6) (h7 : P 7) (h8 : P 8) (h9 : P 9) (h10 : P 10) (h11 : P 11) (h12 : P 12) (h13 : P 13) (h14 : P 14) (h15 : P 15) (h16 : P 16) : ∀ n : Nat, 1 ≤ n → n ≤ 16 → P n
  | 1, _, _ => h1 | 2, _, _ => h2 | 3, _, _ => h3 | 4, _, _ => h4 | 5, _, _ => h5 | 6, _, _ => h6 | 7, _, _ => h7 | 8, _, _ => h8
  | 9, _, _ => h9 | 10, _, _ => h10 | 11, _, _ => h11 | 12, _, _ => h12 | 13, _, _ => h13 | 14, _, _ => h14 | 15, _, _ => h15 | 16, _, _ => h16
  | 0, h, _ => absurd h (by omega)
  | n + 17, _, h => absurd h (by omega)
theorem le_ex {K k : Nat} (h : K ≤ k) : ∃ j, k = j + K := ⟨k - K, by omega⟩
theorem tmod_lt {a n : Int} (hn : 1 ≤ n) : -n < Int.tmod a n ∧ Int.tmod a n < n := ⟨Int.lt_tmod_of_pos a (by omega), Int.tmod_lt_of_pos a (by omega)⟩
theorem tmod_emod (a n : Int) : Int.tmod a n % n = a % n := by
  rw [Int.tmod_def, Int.sub_mul_emod_self_left]
theorem tmod_zero {a n : Int} : Int.tmod a n = 0 ↔ a % n = 0 := by
  rw [← Int.dvd_iff_tmod_eq_zero, Int.dvd_iff_emod_eq_zero]
section
variable {A : Type} (z : A)
theorem within_eq (k : Nat) (a lo hi : Int) (Φ : Bool → A) : impl_within z (k + 1) a lo hi Φ = Φ (decide (lo ≤ a ∧ a ≤ hi)) := by
  simp only [impl_within, step_succ]
  by_cases h : lo ≤ a <;> simp [h]
theorem in_eq (k : Nat) (a lo hi : Int) (Φ : Bool → A) : spec_l01In z (k + 1) a lo hi Φ = Φ (decide (lo ≤ a ∧ a ≤ hi)) := by
  simp only [spec_l01In, step_succ]
  by_cases h : lo ≤ a <;> simp [h]
theorem isOrder_eq (k : Nat) (n : Int) (Φ : Bool → A) : impl_isOrder z (k + 2) n Φ = Φ (decide (1 ≤ n ∧ n ≤ 16)) := by
  simp only [impl_isOrder, step_succ, within_eq]
theorem around_eq (k : Nat) {a n : Int} (hn : 1 ≤ n) (hn2 : n ≤ 1000000) (Φ : Int → A) : impl_around z (k + 1) a n Φ = Φ (a % n) := by
  obtain ⟨a0, a1⟩ := tmod_lt (a := a) hn
  simp only [impl_around, step_succ]
  rw [gd_ok z (by omega), gd_ok z (by omega), w64_id (by omega) (by omega), Int.tmod_eq_emod_of_nonneg (by omega), Int.add_emod_right, tmod_emod]
/-! divisors -/
theorem igcd_g {K0 : Int → A} : ∀ (d k : Nat) (a b : Int), 0 ≤ a → 0 ≤ b → b.toNat ≤ d → d < k → impl_gcd.g3 z k a b K0 = K0 (Int.gcd a b)
  | d, 0, a, b, _, _, _, hk => absurd hk (by omega)
  | d, k + 1, a, b, ha, hb, hd, hk => by
    rw [impl_gcd.g3]
    by_cases h : 0 < b
    · have h1 := Int.tmod_lt_of_pos a h
      have h2 := Int.tmod_nonneg b ha
      rw [if_pos h, gd_ok z (by omega)]
      cases d with
      | zero => omega
      | succ d => rw [igcd_g d k b _ hb h2 (by omega) (by omega), gcd_tmod a b ha h]
    · have : b = 0 := by omega
      subst this
      rw [if_neg h, Int.gcd_zero_right, Int.natAbs_of_nonneg ha]
theorem size_eq (k : Nat) {a : Int} (h : -9223372036854775808 < a ∧ a ≤ 9223372036854775807) (Φ : Int → A) : impl_size z (k + 1) a Φ = Φ (a.natAbs : Int) := by
  simp only [impl_size, step_succ]
  rw [w64_id (by omega) (by omega)]
  congr 1
  unfold maxI
  split <;> omega
theorem igcd_eq {a b : Int} (ha : -9223372036854775808 < a ∧ a ≤ 9223372036854775807) (hb : -9223372036854775808 < b ∧ b ≤ 9223372036854775807) (k : Nat) (hk : b.natAbs + 2 ≤ k) (Φ : Int → A) : impl_gcd z k a b Φ = Φ (Int.gcd a b) := by
  obtain ⟨j, rfl, hj⟩ := up hk
  obtain ⟨i, rfl, hi⟩ := up hj
  simp only [impl_gcd, step_succ]
  rw [size_eq z i ha, size_eq z i hb, igcd_g z b.natAbs (i + 1) _ _ (by omega) (by omega) (by omega) (by omega)]
  simp [Int.gcd]
theorem sgcd_g {K0 : Int → A} : ∀ (d k : Nat) (a b : Int), 0 ≤ a → 0 ≤ b → b.toNat ≤ d → d < k → spec_l01Gcd.g2 z k a b K0 = K0 (Int.gcd a b)
  | d, 0, a, b, _, _, _, hk => absurd hk (by omega)
  | d, k + 1, a, b, ha, hb, hd, hk => by
    rw [spec_l01Gcd.g2]
    by_cases h : b ≠ 0
    · have hp : 0 < b := by omega
      have h1 := Int.tmod_lt_of_pos a hp
      have h2 := Int.tmod_nonneg b ha
      rw [if_pos h, gd_ok z h]
      cases d with
      | zero => omega
      | succ d => rw [sgcd_g d k b _ hb h2 (by omega) (by omega), gcd_tmod a b ha hp]
    · have : b = 0 := by omega
      subst this
      rw [if_neg h, Int.gcd_zero_right, Int.natAbs_of_nonneg ha]
theorem sgcd_eq {a b : Int} (ha : 0 ≤ a ∧ a ≤ 9223372036854775807) (hb : 0 ≤ b ∧ b ≤ 9223372036854775807) (k : Nat) (hk : b.natAbs + 2 ≤ k) (Φ : Int → A) : spec_l01Gcd z k a b Φ = Φ (Int.gcd a b) := by
  obtain ⟨j, rfl, hj⟩ := up hk
  simp only [spec_l01Gcd, step_succ]
  rw [sgcd_g z b.natAbs j _ _ ha.1 hb.1 (by omega) (by omega)]
  have hg : (Int.gcd a b : Int) ≤ 9223372036854775807 := by
    unfold Int.gcd
    rcases Nat.eq_zero_or_pos a.natAbs with h | h
    · rw [h, Nat.gcd_zero_left]; omega
    · have := Nat.gcd_le_left b.natAbs h; omega
  rw [w64_id (by omega) (by omega)]
  congr 1
  unfold maxI
  split <;> omega
theorem isPrimeTo_eq {n : Nat} (h1 : 1 ≤ n) (h2 : n ≤ 1000) (a : Int) (k : Nat) (hk : 1010 ≤ k) (Φ : Bool → A) : impl_isPrimeTo z k a n Φ = Φ (decide ((1 ≤ a ∧ a ≤ n) ∧ Int.gcd a n = 1)) := by
  obtain ⟨j, rfl, hj⟩ := up hk
  obtain ⟨i, rfl, hi⟩ := up hj
  simp only [impl_isPrimeTo, step_succ]
  rw [within_eq]
  by_cases h : 1 ≤ a ∧ a ≤ (n : Int)
  · rw [decide_eq_true h, cond_true, igcd_eq z (by omega) (by omega) _ (by omega)]
    congr 1
    simp only [h, true_and, and_self]
    congr 1
    apply propext
    omega
  · rw [decide_eq_false h, cond_false]
    simp [h]
end
/-! tables -/
theorem totient_tab : ∀ n : Nat, 1 ≤ n → n ≤ 16 → ∀ (j : Nat) (A : Type) (z : A) (Φ : Int → A), impl_totient z (j + 60) (n : Int) Φ = Φ (cycD n : Int) :=
  by16 (fun _ _ _ _ => by kernel_rfl) (fun _ _ _ _ => by kernel_rfl) (fun _ _ _ _ => by kernel_rfl) (fun _ _ _ _ => by kernel_rfl) (fun _ _ _ _ => by kernel_rfl) (fun _ _ _ _ => by kernel_rfl) (fun _ _ _ _ => by kernel_rfl) (fun _ _ _ _ => by kernel_rfl) (fun _ _ _ _ => by kernel_rfl) (fun _ _ _ _ => by kernel_rfl) (fun _ _ _ _ => by kernel_rfl) (fun _ _ _ _ => by kernel_rfl) (fun _ _ _ _ => by kernel_rfl) (fun _ _ _ _ => by kernel_rfl) (fun _ _ _ _ => by kernel_rfl) (fun _ _ _ _ => by kernel_rfl)
theorem phi_tab : ∀ n : Nat, 1 ≤ n → n ≤ 16 → ∀ (j : Nat) (A : Type) (z : A) (Φ : Int → A), spec_l01Phi z (j + 60) (n : Int) Φ = Φ (cycD n : Int) :=
  by16 (fun _ _ _ _ => by kernel_rfl) (fun _ _ _ _ => by kernel_rfl) (fun _ _ _ _ => by kernel_rfl) (fun _ _ _ _ => by kernel_rfl) (fun _ _ _ _ => by kernel_rfl) (fun _ _ _ _ => by kernel_rfl) (fun _ _ _ _ => by kernel_rfl) (fun _ _ _ _ => by kernel_rfl) (fun _ _ _ _ => by kernel_rfl) (fun _ _ _ _ => by kernel_rfl) (fun _ _ _ _ => by kernel_rfl) (fun _ _ _ _ => by kernel_rfl) (fun _ _ _ _ => by kernel_rfl) (fun _ _ _ _ => by kernel_rfl) (fun _ _ _ _ => by kernel_rfl) (fun _ _ _ _ => by kernel_rfl)
theorem cyclo_tab : ∀ n : Nat, 1 ≤ n → n ≤ 16 → ∀ (j : Nat) (A : Type) (z : A) (Φ : List Int → A), spec_l01Cyclotomic z (j + 200) (n : Int) Φ = Φ (cycF n) :=
  by16 (fun _ _ _ _ => by kernel_rfl) (fun _ _ _ _ => by kernel_rfl) (fun _ _ _ _ => by kernel_rfl) (fun _ _ _ _ => by kernel_rfl) (fun _ _ _ _ => by kernel_rfl) (fun _ _ _ _ => by kernel_rfl) (fun _ _ _ _ => by kernel_rfl) (fun _ _ _ _ => by kernel_rfl) (fun _ _ _ _ => by kernel_rfl) (fun _ _ _ _ => by kernel_rfl) (fun _ _ _ _ => by kernel_rfl) (fun _ _ _ _ => by kernel_rfl) (fun _ _ _ _ => by kernel_rfl) (fun _ _ _ _ => by kernel_rfl) (fun _ _ _ _ => by kernel_rfl) (fun _ _ _ _ => by kernel_rfl)
theorem field_tab : ∀ n : Nat, 1 ≤ n → n ≤ 16 → ∀ (j : Nat) (A : Type) (z : A) (Φ : Int → Int → List (List Int) → A), impl_fieldOf z (j + 200) (n : Int) Φ = Φ n (cycD n : Int) (cycP n) :=
  by16 (fun _ _ _ _ => by kernel_rfl) (fun _ _ _ _ => by kernel_rfl) (fun _ _ _ _ => by kernel_rfl) (fun _ _ _ _ => by kernel_rfl) (fun _ _ _ _ => by kernel_rfl) (fun _ _ _ _ => by kernel_rfl) (fun _ _ _ _ => by kernel_rfl) (fun _ _ _ _ => by kernel_rfl) (fun _ _ _ _ => by kernel_rfl) (fun _ _ _ _ => by kernel_rfl) (fun _ _ _ _ => by kernel_rfl) (fun _ _ _ _ => by kernel_rfl) (fun _ _ _ _ => by kernel_rfl) (fun _ _ _ _ => by kernel_rfl) (fun _ _ _ _ => by kernel_rfl) (fun _ _ _ _ => by kernel_rfl)
section
variable {A : Type} (z : A) {n : Nat} (h1 : 1 ≤ n) (h2 : n ≤ 16)
include h1 h2
theorem totient_eq (k : Nat) (hk : 60 ≤ k) (Φ : Int → A) : impl_totient z k (n : Int) Φ = Φ (cycD n : Int) := by
  obtain ⟨j, rfl⟩ := le_ex hk
  exact totient_tab n h1 h2 j A z Φ
theorem phi_eq (k : Nat) (hk : 60 ≤ k) (Φ : Int → A) : spec_l01Phi z k (n : Int) Φ = Φ (cycD n : Int) := by
  obtain ⟨j, rfl⟩ := le_ex hk
  exact phi_tab n h1 h2 j A z Φ
theorem cyclo_eq (k : Nat) (hk : 200 ≤ k) (Φ : List Int → A) : spec_l01Cyclotomic z k (n : Int) Φ = Φ (cycF n) := by
  obtain ⟨j, rfl⟩ := le_ex hk
  exact cyclo_tab n h1 h2 j A z Φ
theorem field_eq (k : Nat) (hk : 200 ≤ k) (Φ : Int → Int → List (List Int) → A) : impl_fieldOf z k (n : Int) Φ = Φ n (cycD n : Int) (cycP n) := by
  obtain ⟨j, rfl⟩ := le_ex hk
  exact field_tab n h1 h2 j A z Φ
end
end Go.Proofs.Ytefdcoeidpbcjaa.F
/- Facts on the printed functions of the first layer: what is told of lists. -/
namespace Go.Proofs.Ytefdcoeidpbcjaa.F
open Go.RowKit Go.Proofs.Ytefdcoeidpbcjaa.R
set_option linter.unusedVariables false
set_option linter.unusedSimpArgs false
def smallB (B : Int) (l : List Int) : Bool := l.all fun x => decide (-B ≤ x ∧ x ≤ B)
theorem small_one (l : List Int) : smallB 1000000000 l = smallL l := rfl
theorem w64_up {i : Nat} (h : i < 2000000) : w64 ((i : Int) + 1) = ((i + 1 : Nat) : Int) := by rw [w64_id (by omega) (by omega)]; omega
theorem getD_at {l : List Int} {i : Nat} (h : i < l.length) : l.getD i 0 = l[i] := by simp [List.getD_eq_getElem?_getD, h]
theorem drop_cons {l : List Int} {i : Nat} (h : i < l.length) : l.drop i = l.getD i 0 :: l.drop (i + 1) := by
  rw [getD_at h]; exact List.drop_eq_getElem_cons h
section
variable {A : Type} (z : A)
theorem index_g {l : List Int} (hl : l.length ≤ 1000000) {B : Int} (hB : 0 ≤ B ∧ B ≤ 1000000000) {K0 : Int → A} {K1 Kt : A} (hK : ∀ i : Nat, K0 (i : Int) = Kt) : ∀ (d i k : Nat), i + d = l.length → d + 4 ≤ k →
    slices_IndexFunc_Sint64_int64_c95.g3 z k l B (l.length : Int) (i : Int) K0 K1 = bif smallB B (l.drop i) then K1 else Kt
  | d, i, 0, _, hk => absurd hk (by omega)
  | 0, i, k + 1, hi, hk => by
    rw [slices_IndexFunc_Sint64_int64_c95.g3, if_neg (by omega), List.drop_eq_nil_of_le (by omega)]
    rfl
  | d + 1, i, k + 1, hi, hk => by
    obtain ⟨j, rfl, hj⟩ := up (show d + 3 + 1 ≤ k by omega)
    obtain ⟨m, rfl, hm⟩ := up hj
    have hlt : i < l.length := by omega
    rw [slices_IndexFunc_Sint64_int64_c95.g3, if_pos (by omega), inI_at z hlt]
    simp only [impl_areSmall_1, step_succ]
    rw [w64_id (by omega) (by omega), within_eq, drop_cons hlt]
    simp only [smallB, List.all_cons]
    by_cases h : 0 - B ≤ l.getD i 0 ∧ l.getD i 0 ≤ B
    · rw [decide_eq_true h, decide_eq_true (show -B ≤ l.getD i 0 ∧ l.getD i 0 ≤ B by omega), Bool.not_true, cond_false, w64_up (by omega), Bool.true_and]
      exact index_g hl hB hK d (i + 1) (m + 1 + 1) (by omega) (by omega)
    · rw [decide_eq_false h, decide_eq_false (show ¬ (-B ≤ l.getD i 0 ∧ l.getD i 0 ≤ B) by omega), Bool.not_false, cond_true, Bool.false_and, cond_false]
      exact hK i
theorem areSmall_eq {l : List Int} (hl : l.length ≤ 1000000) {B : Int} (hB : 0 ≤ B ∧ B ≤ 1000000000) (k : Nat) (hk : l.length + 8 ≤ k) (Φ : Bool → A) : impl_areSmall z k l B Φ = Φ (smallB B l) := by
  obtain ⟨k, rfl⟩ := le_ex (show 3 ≤ k by omega)
  simp only [impl_areSmall, slices_ContainsFunc_Sint64_int64_c95, slices_IndexFunc_Sint64_int64_c95, step_succ]
  have h := index_g z hl hB (K0 := fun v1 => Φ (!decide (0 ≤ v1))) (K1 := Φ (!decide ((0 : Int) ≤ -1))) (Kt := Φ false) (fun i => by rw [decide_eq_true (show (0 : Int) ≤ (i : Int) by omega), Bool.not_true]) l.length 0 k (by omega) (by omega)
  rw [List.drop_zero] at h
  refine Eq.trans h ?_
  cases smallB B l <;> rfl
theorem cycloOf_eq {l : List Int} (hl : l.length ≤ 1000000) (n : Int) (k : Nat) (hk : l.length + 9 ≤ k) (Φ : Int → List Int → Int → A) : impl_cycloOf z k n l Φ = bif smallL l then Φ n l 0 else Φ 0 [] 3 := by
  obtain ⟨k, rfl, hk⟩ := up hk
  simp only [impl_cycloOf, step_succ]
  rw [areSmall_eq z hl (by omega) k (by omega), small_one]
  cases smallL l <;> rfl
/-- Lists alike. -/
theorem like_g {a b : List Int} (ha : a.length ≤ 1000000) (hab : a.length = b.length) {K0 : Bool → A} {K1 : A} : ∀ (d i k : Nat), i + d = a.length → d + 1 ≤ k →
    laws_likeInts.g6 z k a b (i : Int) K0 K1 = bif decide (a.drop i = b.drop i) then K1 else K0 false
  | d, i, 0, _, hk => absurd hk (by omega)
  | 0, i, k + 1, hi, hk => by
    rw [laws_likeInts.g6, if_neg (by omega), List.drop_eq_nil_of_le (by omega), List.drop_eq_nil_of_le (by omega)]
    rfl
  | d + 1, i, k + 1, hi, hk => by
    have hlt : i < a.length := by omega
    rw [laws_likeInts.g6, if_pos (by omega), inI_at z hlt, inI_at z (show i < b.length by omega), drop_cons hlt, drop_cons (show i < b.length by omega)]
    by_cases h : a.getD i 0 = b.getD i 0
    · rw [if_neg (by simpa using h), w64_up (by omega), like_g ha hab d (i + 1) k (by omega) (by omega), h]
      simp
    · rw [if_pos (by simpa using h), decide_eq_false (by simp only [List.cons.injEq]; exact fun e => h e.1), cond_false]
theorem like_eq {a b : List Int} (ha : a.length ≤ 1000000) (k : Nat) (hk : a.length + 2 ≤ k) (Φ : Bool → A) : laws_likeInts z k a b Φ = Φ (decide (a = b)) := by
  obtain ⟨k, rfl, hk⟩ := up hk
  simp only [laws_likeInts, step_succ]
  by_cases h : a.length = b.length
  · rw [if_neg (by omega)]
    have h := like_g z ha h (K0 := Φ) (K1 := Φ true) a.length 0 k (by omega) (by omega)
    rw [List.drop_zero, List.drop_zero] at h
    refine Eq.trans h ?_
    cases decide (a = b) <;> rfl
  · rw [if_pos (by omega), decide_eq_false (fun e => h (by rw [e]))]
end
end Go.Proofs.Ytefdcoeidpbcjaa.F
/- Facts on the printed functions of the first layer: numbers of a field, reduced, turned, lifted. -/
namespace Go.Proofs.Ytefdcoeidpbcjaa.F
open Go.RowKit Go.Proofs.Ytefdcoeidpbcjaa.R
set_option linter.unusedVariables false
set_option linter.unusedSimpArgs false
def isC (n : Int) (l : List Int) : Bool := decide (1 ≤ n ∧ n ≤ 16) && (decide (l.length = cycD n.toNat) && smallL l)
theorem isC_len {n : Int} {l : List Int} (h : isC n l = true) : (∃ m : Nat, n = m ∧ 1 ≤ m ∧ m ≤ 16 ∧ l.length = cycD m) ∧ smallL l = true := by
  simp only [isC, Bool.and_eq_true, decide_eq_true_eq] at h
  exact ⟨⟨n.toNat, by omega, by omega, by omega, h.2.1⟩, h.2.2⟩
theorem le12 {n : Nat} (h1 : 1 ≤ n) (h2 : n ≤ 16) : cycD n ≤ 12 := (cyc_facts h1 h2).le12
section
variable {A : Type} (z : A)
theorem isCyclo_eq (n : Int) {l : List Int} (hl : l.length ≤ 1000000) (k : Nat) (hk : l.length + 70 ≤ k) (Φ : Bool → A) : impl_IsCyclo z k n l Φ = Φ (isC n l) := by
  obtain ⟨k, rfl⟩ := le_ex (show 3 ≤ k by omega)
  simp only [impl_IsCyclo, step_succ]
  rw [isOrder_eq]
  by_cases h : 1 ≤ n ∧ n ≤ 16
  · obtain ⟨m, rfl⟩ : ∃ m : Nat, n = m := ⟨n.toNat, by omega⟩
    rw [decide_eq_true h, cond_true, totient_eq z (by omega) (by omega) _ (by omega)]
    simp only [isC, Int.toNat_natCast, decide_eq_true h, Bool.true_and]
    by_cases hd : l.length = cycD m
    · rw [if_pos (by omega), areSmall_eq z hl (by omega) _ (by omega), decide_eq_true hd, Bool.true_and, small_one]
    · rw [if_neg (by omega), decide_eq_false hd, Bool.false_and]
  · rw [decide_eq_false h, cond_false]
    simp only [isC, decide_eq_false h, Bool.false_and]
def codeC (m : Int) (a : List Int) (n : Int) (b : List Int) : Int := bif isC m a && isC n b then (if m = n then 0 else 2) else 1
theorem own_eq {l : List Int} (hl : l.length ≤ 1000000) (k : Nat) (hk : 1 ≤ k) (Φ : List Int → A) : spec_l01Own z k l Φ = Φ l := by
  obtain ⟨k, rfl, hk⟩ := up (K := 0) hk
  simp only [spec_l01Own, step_succ]
  rw [apI_ok z (by omega), List.nil_append]
theorem clone_eq {l : List Int} (hl : l.length ≤ 1000000) (k : Nat) (hk : 1 ≤ k) (Φ : List Int → A) : slices_Clone_Sint64_int64 z k l Φ = Φ l := by
  obtain ⟨k, rfl, hk⟩ := up (K := 0) hk
  simp only [slices_Clone_Sint64_int64, step_succ]
  rw [apI_ok z (by omega)]
theorem zero01_eq {n : Nat} (h1 : 1 ≤ n) (h2 : n ≤ 16) (k : Nat) (hk : 61 ≤ k) (Φ : Int → List Int → A) : spec_l01Zero z k n Φ = Φ n (List.replicate (cycD n) 0) := by
  obtain ⟨k, rfl, hk⟩ := up hk
  have := le12 h1 h2
  simp only [spec_l01Zero, step_succ]
  rw [phi_eq z h1 h2 _ (by omega), mkI_at z (by omega)]
/-! reduced -/
theorem red_g11 {F : List Int} {D : Nat} (hF : F.length = D + 1) (v : Int) {x : Nat} (hD : D ≤ x) {K0 : List Int → A} : ∀ (d c k : Nat) (L : List Int), c + d = D + 1 → x < L.length → L.length ≤ 1000 → d + 1 ≤ k →
    spec_l01Reduce.g11 z k (D : Int) (x : Int) v (c : Int) F L K0 = K0 (redIn F v (x - D) d c L)
  | d, c, 0, L, _, _, _, hk => absurd hk (by omega)
  | 0, c, k + 1, L, hc, hx, hl, hk => by
    rw [spec_l01Reduce.g11, if_neg (by omega)]
    rfl
  | d + 1, c, k + 1, L, hc, hx, hl, hk => by
    have e : w64 (w64 ((x : Int) - (D : Int)) + (c : Int)) = ((x - D + c : Nat) : Int) := by
      rw [w64_id (x := (x : Int) - D) (by omega) (by omega), w64_id (by omega) (by omega)]; omega
    rw [spec_l01Reduce.g11, if_pos (by omega), e, inI_at z (by omega), inI_at z (by omega), inI_at z (by omega), w64_up (by omega), red_g11 hF v hD d (c + 1) k _ (by omega) (by rw [List.length_set]; omega) (by rw [List.length_set]; omega) (by omega)]
    rfl
theorem redIn_length (F : List Int) (v : Int) (p : Nat) : ∀ (d c : Nat) (L : List Int), (redIn F v p d c L).length = L.length
  | 0, c, L => rfl
  | d + 1, c, L => by unfold redIn; rw [redIn_length F v p d, List.length_set]
theorem redOut_length (F : List Int) (D : Nat) : ∀ (x : Nat) (L : List Int), (redOut F D x L).length = L.length
  | 0, L => rfl
  | x + 1, L => by
    unfold redOut
    by_cases h : D ≤ x
    · rw [if_pos h, redOut_length F D x, redIn_length]
    · rw [if_neg h]
theorem red_g5 {F : List Int} {D : Nat} (h1 : 1 ≤ D) (hF : F.length = D + 1) {K0 : List Int → A} : ∀ (x k : Nat) (L : List Int), x ≤ L.length → L.length ≤ 1000 → x + D + 4 ≤ k →
    spec_l01Reduce.g5 z k (D : Int) ((x : Int) - 1) F L K0 = K0 (redOut F D x L)
  | x, 0, L, _, _, hk => absurd hk (by omega)
  | 0, k + 1, L, hx, hl, hk => by
    rw [spec_l01Reduce.g5, if_neg (by omega)]
    rfl
  | x + 1, k + 1, L, hx, hl, hk => by
    rw [show ((x + 1 : Nat) : Int) - 1 = (x : Int) by omega, spec_l01Reduce.g5]
    unfold redOut
    by_cases hD : D ≤ x
    · rw [if_pos (by omega), if_pos hD, inI_at z (by omega)]
      refine Eq.trans (red_g11 z hF _ hD (D + 1) 0 k L (by omega) (by omega) hl (by omega)) ?_
      rw [w64_id (by omega) (by omega), red_g5 h1 hF x k _ (by rw [redIn_length]; omega) (by rw [redIn_length]; omega) (by omega)]
      rfl
    · rw [if_neg (by omega), if_neg hD]
theorem red_g18 {R : List Int} {D : Nat} (hD : D ≤ 1000) (hR : R.length ≤ 1000) {K0 : List Int → A} : ∀ (d m k : Nat), m + d = D → d + 1 ≤ k →
    spec_l01Reduce.g18 z k (D : Int) (m : Int) R (tab D fun j => if j < m then rd R j else 0) K0 = K0 (tab D fun j => rd R j)
  | d, m, 0, _, hk => absurd hk (by omega)
  | 0, m, k + 1, hm, hk => by
    rw [spec_l01Reduce.g18, if_neg (by omega), show (tab D fun j => if j < m then rd R j else 0) = tab D fun j => rd R j from tab_congr (fun j hj => if_pos (by omega))]
  | d + 1, m, k + 1, hm, hk => by
    rw [spec_l01Reduce.g18, if_pos (by omega)]
    by_cases hr : m < R.length
    · rw [if_pos (by omega), inI_at z hr, inI_at z (by rw [tab_length]; omega), w64_up (by omega), tab_set]
      have e : (tab D fun j => if m = j then R.getD m 0 else if j < m then rd R j else 0) = tab D fun j => if j < m + 1 then rd R j else 0 := tab_congr (fun j hj => by
        by_cases c : m = j
        · subst c; rw [if_pos rfl, if_pos (by omega)]; rfl
        · rw [if_neg c]
          by_cases c2 : j < m
          · rw [if_pos c2, if_pos (by omega)]
          · rw [if_neg c2, if_neg (by omega)])
      rw [e, red_g18 hD hR d (m + 1) k (by omega) (by omega)]
    · rw [if_neg (by omega), show (tab D fun j => if j < m then rd R j else 0) = tab D fun j => rd R j from tab_congr (fun j hj => by
        by_cases c : j < m
        · rw [if_pos c]
        · rw [if_neg c, rd_out R j (by omega)])]
theorem reduce_eq {n : Nat} (h1 : 1 ≤ n) (h2 : n ≤ 16) {L : List Int} (hl : L.length ≤ 1000) (hw : Wrapped L) (k : Nat) (hk : L.length + 220 ≤ k) (Φ : Int → List Int → A) :
    spec_l01Reduce z k (n : Int) L Φ = Φ n (tab (cycD n) fun m => wrap64 (dot L (cycW n m))) := by
  obtain ⟨k, rfl, hk⟩ := up hk
  have C := cyc_facts h1 h2
  have := C.le12
  have := C.pos
  simp only [spec_l01Reduce, step_succ]
  rw [cyclo_eq z h1 h2 _ (by omega), own_eq z (by omega) _ (by omega), C.lenF, w64_id (x := ((cycD n + 1 : Nat) : Int) - 1) (by omega) (by omega), w64_id (x := (L.length : Int) - 1) (by omega) (by omega), show ((cycD n + 1 : Nat) : Int) - 1 = (cycD n : Int) by omega]
  rw [red_g5 z (by omega) C.lenF L.length k L (Nat.le_refl _) hl (by omega), zero01_eq z h1 h2 _ (by omega), tab_zero, show (tab (cycD n) fun _ => (0 : Int)) = tab (cycD n) fun j => if j < 0 then rd (redOut (cycF n) (cycD n) L.length L) j else 0 from tab_congr (fun j _ => (if_neg (by omega)).symm)]
  refine Eq.trans (red_g18 z (by omega) (by rw [redOut_length]; omega) (cycD n) 0 k (by omega) (by omega)) ?_
  rw [show (tab (cycD n) fun j => rd (redOut (cycF n) (cycD n) L.length L) j) = tab (cycD n) fun m => wrap64 (dot L (cycW n m)) from tab_congr (fun j hj => redL_rd C h1 L hw j hj)]
end
end Go.Proofs.Ytefdcoeidpbcjaa.F
/- Facts on the printed functions of the first layer: images, lifts, sums. -/
namespace Go.Proofs.Ytefdcoeidpbcjaa.F
open Go.RowKit Go.Proofs.Ytefdcoeidpbcjaa.R
set_option linter.unusedVariables false
set_option linter.unusedSimpArgs false
theorem mul_bd {i : Nat} {a : Int} (hi : i ≤ 100) (ha : -1000 ≤ a ∧ a ≤ 1000) : -1000000 ≤ (i : Int) * a ∧ (i : Int) * a ≤ 1000000 := by
  have := mul_le (a := (i : Int)) (b := a) (A := 1000) (B := 1000) (by omega) ha
  omega
theorem round_eq {v : Int} {n : Nat} (hv : -1000000 ≤ v ∧ v ≤ 1000000) (h1 : 1 ≤ n) (h2 : n ≤ 1000) : Int.tmod (w64 (Int.tmod (w64 v) n + n)) n = v % n := by
  obtain ⟨a0, a1⟩ := tmod_lt (a := v) (n := n) (by omega)
  rw [w64_id (x := v) (by omega) (by omega), w64_id (by omega) (by omega), Int.tmod_eq_emod_of_nonneg (by omega), Int.add_emod_right, tmod_emod]
theorem mod_nat (v : Int) {n : Nat} (h1 : 1 ≤ n) : v % n = (((v % n).toNat : Nat) : Int) ∧ (v % n).toNat < n := by
  have q0 := Int.emod_nonneg v (b := n) (by omega)
  have q1 := Int.emod_lt_of_pos v (b := n) (by omega)
  exact ⟨by omega, by omega⟩
section
variable {A : Type} (z : A)
theorem with178_in {row : List Int} (hr : row.length ≤ 1000) (v : Int) {K0 : List Int → A} : ∀ (d c k : Nat) (o : List Int), c + d = row.length → o.length = row.length → d + 1 ≤ k →
    impl_field_with_c97.g10 z k v row (row.length : Int) (c : Int) o K0 = K0 (addIn row v 0 d c o)
  | d, c, 0, o, _, _, hk => absurd hk (by omega)
  | 0, c, k + 1, o, hc, ho, hk => by
    rw [impl_field_with_c97.g10, if_neg (by omega)]
    rfl
  | d + 1, c, k + 1, o, hc, ho, hk => by
    rw [impl_field_with_c97.g10, if_pos (by omega), inI_at z (by omega), inI_at z (by omega), inI_at z (by omega), w64_up (by omega), with178_in hr v d (c + 1) k _ (by omega) (by rw [List.length_set]; exact ho) (by omega)]
    rw [show addIn row v 0 (d + 1) c o = addIn row v 0 d (c + 1) (o.set c (w64 (o.getD c 0 + w64 (v * row.getD c 0)))) by rw [addIn, Nat.zero_add]; rfl]
theorem with178_g {n : Nat} (h1 : 1 ≤ n) (h2 : n ≤ 16) {x : List Int} (hx : x.length ≤ 100) {a : Int} {q : Nat → Nat}
    (hq : ∀ i : Nat, i < x.length → q i < n ∧ ∀ k (K0 : Int → A), (impl_field_image_1 z (k + 1) (i : Int) a fun v3 => impl_around z (k + 1) v3 (n : Int) K0) = K0 (q i : Int)) {K0 : List Int → A} : ∀ (d i k : Nat) (o : List Int), i + d = x.length → o.length = cycD n → d + 20 ≤ k →
    impl_field_with_c97.g4 z k (n : Int) (cycP n) a x (x.length : Int) (i : Int) o K0 = K0 (imIn n x q d i o)
  | d, i, 0, o, _, _, hk => absurd hk (by omega)
  | 0, i, k + 1, o, hi, ho, hk => by
    rw [impl_field_with_c97.g4, if_neg (by omega)]
    rfl
  | d + 1, i, k + 1, o, hi, ho, hk => by
    obtain ⟨q1, q2⟩ := hq i (by omega)
    have C := cyc_facts h1 h2
    obtain ⟨r1, r2, r3⟩ := cycRow_facts C h1 q1
    have := C.le12
    obtain ⟨j, rfl, hj⟩ := up (show d + 19 + 1 ≤ k by omega)
    rw [impl_field_with_c97.g4, if_pos (by omega), inI_at z (by omega), q2, inI_at z (by rw [C.lenP]; omega), w64_up (by omega)]
    refine Eq.trans (with178_in z (row := cycRow n (q i)) (by omega) _ (cycRow n (q i)).length 0 (j + 1) o (by omega) (by omega) (by omega)) ?_
    rw [r1]
    have hl := (addIn_length (cycRow n (q i)) (rd x i) 0 (cycD n) 0 o).trans ho
    exact with178_g h1 h2 hx hq d (i + 1) (j + 1) _ (by omega) hl (by omega)
theorem image_eq {n : Nat} (h1 : 1 ≤ n) (h2 : n ≤ 16) {x : List Int} (hx : x.length ≤ 100) {a : Int} (ha : -1000 ≤ a ∧ a ≤ 1000) (k : Nat) (hk : 130 ≤ k) (Φ : List Int → A) :
    impl_field_image z k (n : Int) (cycD n : Int) (cycP n) x a Φ = Φ (imT n x a) := by
  obtain ⟨k, rfl⟩ := le_ex (show 2 ≤ k by omega)
  have := le12 h1 h2
  simp only [impl_field_image, impl_field_with_c97, step_succ]
  rw [mkI_at z (by omega)]
  refine Eq.trans (with178_g z h1 h2 hx (q := fun i => (((i : Int) * a) % n).toNat) (fun i hi => ⟨(mod_nat _ h1).2, fun k K0 => ?_⟩) x.length 0 k _ (by omega) (by simp) (by omega)) ?_
  · simp only [impl_field_image_1, step_succ]
    have hm := mul_bd (i := i) (by omega) ha
    rw [Int.mul_comm a, w64_id (by omega) (by omega), around_eq z _ (by omega) (by omega)]
    exact congrArg _ (mod_nat _ h1).1
  · rw [imIn_tab (cyc_facts h1 h2) h1 x _ fun j hj => (mod_nat _ h1).2]
    rfl
end
end Go.Proofs.Ytefdcoeidpbcjaa.F
/- Facts on the printed functions of the first layer: products, with sums that may be great. -/
namespace Go.Proofs.Ytefdcoeidpbcjaa.F
open Go.RowKit Go.Proofs.Ytefdcoeidpbcjaa.R
set_option linter.unusedVariables false
set_option linter.unusedSimpArgs false
/-- The sums stand at T, of at most c numbers each. -/
def Sums (D : Nat) (o : List (Int × Nat)) (T : Nat → Int) (c : Nat) : Prop := o.length = D ∧ ∀ j, j < D → (o.getD j (0, 0)).1 = w64 (T j) ∧ Near (o.getD j (0, 0)).2 (T j) c ∧ (T j).natAbs ≤ 16000000000000000000 * c
theorem Near.more {b : Nat} {T : Int} {c c' : Nat} (h : Near b T c) (e : c ≤ c') : Near b T c' := by
  obtain ⟨n, h1, h2⟩ := h
  exact ⟨n, h1, Nat.le_trans h2 (Nat.mul_le_mul_right _ e)⟩
theorem Sums.more {D : Nat} {o : List (Int × Nat)} {T : Nat → Int} {c c' : Nat} (h : Sums D o T c) (e : c ≤ c') : Sums D o T c' :=
  ⟨h.1, fun j hj => by obtain ⟨h1, h2, h3⟩ := h.2 j hj; exact ⟨h1, h2.more e, Nat.le_trans h3 (Nat.mul_le_mul_left _ e)⟩⟩
theorem Sums.congr {D : Nat} {o : List (Int × Nat)} {T S : Nat → Int} {c : Nat} (h : Sums D o T c) (e : ∀ j, j < D → T j = S j) : Sums D o S c :=
  ⟨h.1, fun j hj => by rw [← e j hj]; exact h.2 j hj⟩
theorem sums_zero (D : Nat) : Sums D (List.replicate D ((0 : Int), (0 : Nat))) (fun _ => 0) 0 :=
  ⟨by simp, fun j hj => by
    have : (List.replicate D ((0 : Int), (0 : Nat))).getD j (0, 0) = (0, 0) := by simp [List.getD_eq_getElem?_getD, hj]
    rw [this]
    exact ⟨rfl, near_zero, by simp⟩⟩
theorem w64_cg (a b : Int) : w64 (w64 a + w64 b) = w64 (a + b) := ((Cg.wrap a).add (Cg.wrap b)).eq
/-- One number more at one place. -/
theorem sumAdd {D : Nat} {o : List (Int × Nat)} {T : Nat → Int} {c : Nat} (h : Sums D o T c) (hc : c ≤ 200000) {m : Nat} (hm : m < D) {X Y : Nat} (hXY : X ≤ 16000000000 ∧ Y ≤ 16000000000 ∧ X * Y ≤ 16000000000000000000) {x y : Int} (hx : x.natAbs ≤ X) (hy : y.natAbs ≤ Y) :
    ∃ s, (∀ (A : Type) (z : A) (k : Nat) (Φ : Int → Nat → A), impl_sum_add z (k + 1) (o.getD m (0, 0)).1 (o.getD m (0, 0)).2 x y Φ = Φ (w64 (T m + x * y)) s) ∧
      Sums D (o.set m (w64 (T m + x * y), s)) (fun j => if m = j then T j + x * y else T j) (c + 1) := by
  obtain ⟨h1, h2, h3⟩ := h.2 m hm
  have hxy : (x * y).natAbs ≤ 16000000000000000000 := by
    rw [Int.natAbs_mul]
    exact Nat.le_trans (Nat.mul_le_mul hx hy) hXY.2.2
  obtain ⟨p, s, e1, e2, e3⟩ := near_add h2 (x := x) (y := y) (by omega) (by omega) (by omega) (by omega) (by omega)
  refine ⟨s, fun A z k Φ => ?_, by rw [List.length_set]; exact h.1, fun j hj => ?_⟩
  · simp only [impl_sum_add, step_succ]
    rw [e1]
    simp only [optN]
    rw [e2]
    simp only []
    rw [h1, w64_cg]
  · by_cases e : m = j
    · subst e
      have : (o.set m (w64 (T m + x * y), s)).getD m (0, 0) = (w64 (T m + x * y), s) := by
        simp [List.getD_eq_getElem?_getD, List.getElem?_set, h.1, hm]
      rw [this]
      dsimp only
      rw [if_pos rfl]
      exact ⟨rfl, e3, by omega⟩
    · have : (o.set m (w64 (T m + x * y), s)).getD j (0, 0) = o.getD j (0, 0) := by
        simp [List.getD_eq_getElem?_getD, List.getElem?_set, e]
      rw [this]
      dsimp only
      rw [if_neg e]
      obtain ⟨g1, g2, g3⟩ := h.2 j hj
      exact ⟨g1, g2.more (by omega), by omega⟩
/-- A row of a power, times a product. -/
theorem prod15 {D : Nat} {row : List Int} (hr : row.length = D) (hD : D ≤ 12) (hrow : ∀ j : Nat, j < D → -1 ≤ rd row j ∧ rd row j ≤ 1) {X Y : Nat} (hXY : X ≤ 16000000000 ∧ Y ≤ 16000000000 ∧ X * Y ≤ 16000000000000000000) {x y : Int} (hx : x.natAbs ≤ X) (hy : y.natAbs ≤ Y) :
    ∀ (d m : Nat) (o : List (Int × Nat)) (T : Nat → Int) (c : Nat), m + d = D → c + d ≤ 200000 → Sums D o T c →
    ∃ o', (∀ (A : Type) (z : A) (k : Nat) (K0 : List (Int × Nat) → A), d + 3 ≤ k → impl_field_product.g15 z k x y row (row.length : Int) (m : Int) o K0 = K0 o') ∧ Sums D o' (fun j => if m ≤ j then T j + rd row j * x * y else T j) (c + d)
  | 0, m, o, T, c, hm, hc, hs => by
    refine ⟨o, fun A z k K0 hk => ?_, hs.congr fun j hj => by rw [if_neg (by omega)]⟩
    obtain ⟨k, rfl, _⟩ := up (show 2 + 1 ≤ k by omega)
    rw [impl_field_product.g15, if_neg (by omega)]
  | d + 1, m, o, T, c, hm, hc, hs => by
    have hmD : m < D := by omega
    have hro := hrow m hmD
    by_cases h0 : rd row m = 0
    · obtain ⟨o', h1, h2⟩ := prod15 hr hD hrow hXY hx hy d (m + 1) o T c (by omega) (by omega) hs
      refine ⟨o', fun A z k K0 hk => ?_, (h2.more (by omega)).congr fun j hj => ?_⟩
      · obtain ⟨k, rfl, _⟩ := up (show d + 3 + 1 ≤ k by omega)
        have h0' : row.getD m 0 = 0 := h0
        rw [impl_field_product.g15, if_pos (by omega), inI_at z (by omega), if_neg (by simpa using h0'), w64_up (by omega)]
        exact h1 A z k K0 (by omega)
      · by_cases c1 : m + 1 ≤ j
        · rw [if_pos c1, if_pos (by omega)]
        · rw [if_neg c1]
          by_cases c2 : m ≤ j
          · have : j = m := by omega
            subst this
            rw [if_pos c2, h0, Int.zero_mul, Int.zero_mul, Int.add_zero]
          · rw [if_neg c2]
    · have hnx : (rd row m * x).natAbs ≤ X := by
        rcases (show rd row m = 1 ∨ rd row m = -1 by omega) with e | e <;> rw [e] <;> omega
      obtain ⟨s, e1, e2⟩ := sumAdd hs (by omega) hmD hXY hnx hy
      obtain ⟨o', h1, h2⟩ := prod15 hr hD hrow hXY hx hy d (m + 1) _ _ (c + 1) (by omega) (by omega) e2
      refine ⟨o', fun A z k K0 hk => ?_, (h2.more (by omega)).congr fun j hj => ?_⟩
      · obtain ⟨k, rfl, _⟩ := up (show d + 3 + 1 ≤ k by omega)
        obtain ⟨i, rfl, _⟩ := up (show d + 2 + 1 ≤ k by omega)
        have h0' : row.getD m 0 ≠ 0 := h0
        have hw : w64 (row.getD m 0 * x) = rd row m * x := w64_id (x := rd row m * x) (by omega) (by omega)
        rw [impl_field_product.g15, if_pos (by omega), inI_at z (by omega), if_pos h0', inI_at z (by rw [hs.1]; omega), hw, e1, w64_up (by omega)]
        exact h1 A z (i + 1) K0 (by omega)
      · by_cases c1 : m + 1 ≤ j
        · rw [if_pos c1, if_neg (show ¬ m = j by omega), if_pos (show m ≤ j by omega)]
        · rw [if_neg c1]
          by_cases c2 : m ≤ j
          · have : j = m := by omega
            subst this
            rw [if_pos rfl, if_pos c2]
          · rw [if_neg (show ¬ m = j by omega), if_neg c2]
theorem prod7 {n : Nat} (h1 : 1 ≤ n) (h2 : n ≤ 16) {i : Nat} (hi : i ≤ 1000) {X Y : Nat} (hXY : X ≤ 16000000000 ∧ Y ≤ 16000000000 ∧ X * Y ≤ 16000000000000000000) {x : Int} (hx : x.natAbs ≤ X) {y : List Int} (hy : ∀ q : Nat, q < y.length → (rd y q).natAbs ≤ Y) (hyl : y.length ≤ 1000) :
    ∀ (d m : Nat) (o : List (Int × Nat)) (T : Nat → Int) (c : Nat), m + d = y.length → c + 12 * d ≤ 200000 → Sums (cycD n) o T c →
    ∃ o', (∀ (A : Type) (z : A) (k : Nat) (K0 : List (Int × Nat) → A), d + 20 ≤ k → impl_field_product.g7 z k (n : Int) (cycP n) (i : Int) x y (y.length : Int) (m : Int) o K0 = K0 o') ∧
      Sums (cycD n) o' (fun j => T j + x * sumF m d (fun q => rd y q * cycW n j (i + q))) (c + 12 * d)
  | 0, m, o, T, c, hm, hc, hs => by
    refine ⟨o, fun A z k K0 hk => ?_, hs.congr fun j hj => by simp [sumF]⟩
    obtain ⟨k, rfl, _⟩ := up (show 19 + 1 ≤ k by omega)
    rw [impl_field_product.g7, if_neg (by omega)]
  | d + 1, m, o, T, c, hm, hc, hs => by
    have hml : m < y.length := by omega
    have C := cyc_facts h1 h2
    have hlt : (i + m) % n < n := Nat.mod_lt _ (by omega)
    obtain ⟨r1, r2, r3⟩ := cycRow_facts C h1 hlt
    have skip : x * rd y m = 0 → (∀ (A : Type) (z : A) (k : Nat) (K0 : List (Int × Nat) → A), d + 20 + 1 ≤ k + 1 → impl_field_product.g7 z (k + 1) (n : Int) (cycP n) (i : Int) x y (y.length : Int) (m : Int) o K0 = impl_field_product.g7 z k (n : Int) (cycP n) (i : Int) x y (y.length : Int) ((m + 1 : Nat) : Int) o K0) →
        ∃ o', (∀ (A : Type) (z : A) (k : Nat) (K0 : List (Int × Nat) → A), d + 1 + 20 ≤ k → impl_field_product.g7 z k (n : Int) (cycP n) (i : Int) x y (y.length : Int) (m : Int) o K0 = K0 o') ∧
          Sums (cycD n) o' (fun j => T j + x * sumF m (d + 1) (fun q => rd y q * cycW n j (i + q))) (c + 12 * (d + 1)) := by
      intro h0 hstep
      obtain ⟨o', g1, g2⟩ := prod7 h1 h2 hi hXY hx hy hyl d (m + 1) o T c (by omega) (by omega) hs
      refine ⟨o', fun A z k K0 hk => ?_, (g2.more (by omega)).congr fun j hj => ?_⟩
      · obtain ⟨k, rfl, _⟩ := up (show d + 20 + 1 ≤ k by omega)
        rw [hstep A z k K0 (by omega)]
        exact g1 A z k K0 (by omega)
      · rw [sumF, Int.mul_add, ← Int.mul_assoc x, h0, Int.zero_mul, Int.zero_add]
    by_cases hx0 : x = 0
    · refine skip (by rw [hx0, Int.zero_mul]) fun A z k K0 hk => ?_
      rw [impl_field_product.g7, if_pos (by omega), inI_at z hml, if_pos hx0, w64_up (by omega)]
    by_cases hy0 : rd y m = 0
    · refine skip (by rw [hy0, Int.mul_zero]) fun A z k K0 hk => ?_
      have hy0' : y.getD m 0 = 0 := hy0
      rw [impl_field_product.g7, if_pos (by omega), inI_at z hml, if_neg hx0, if_pos hy0', w64_up (by omega)]
    obtain ⟨o1, e1, e2⟩ := prod15 (row := cycRow n ((i + m) % n)) r1 C.le12 (fun j hj => by
      rw [rd_nat _ _ (by omega)]
      exact r2 _ (List.getElem_mem _)) hXY hx (hy m hml) (cycD n) 0 o T c (by omega) (by have := C.le12; omega) hs
    obtain ⟨o', g1, g2⟩ := prod7 h1 h2 hi hXY hx hy hyl d (m + 1) o1 _ (c + 12) (by omega) (by omega) (e2.more (by have := C.le12; omega))
    refine ⟨o', fun A z k K0 hk => ?_, (g2.more (by omega)).congr fun j hj => ?_⟩
    · obtain ⟨k, rfl, _⟩ := up (show d + 20 + 1 ≤ k by omega)
      have hy0' : ¬ y.getD m 0 = 0 := hy0
      have hq : Int.tmod (w64 ((i : Int) + (m : Int))) (n : Int) = (((i + m) % n : Nat) : Int) := by
        rw [w64_id (by omega) (by omega), Int.tmod_eq_emod_of_nonneg (by omega), Int.natCast_emod, Int.natCast_add]
      rw [impl_field_product.g7, if_pos (by omega), inI_at z hml, if_neg hx0, if_neg hy0', gd_ok z (by omega), hq, inI_at z (by rw [C.lenP]; exact hlt), w64_up (by omega)]
      refine Eq.trans (e1 A z k _ (by have := C.le12; omega)) ?_
      exact g1 A z k K0 (by omega)
    · rw [if_pos (Nat.zero_le _), sumF, r3 j, cycW_mod, Int.mul_add, Int.add_assoc]
      congr 2
      rw [Int.mul_comm (cycW n j (i + m)) x, Int.mul_assoc, Int.mul_comm (cycW n j (i + m))]
theorem prod1 {n : Nat} (h1 : 1 ≤ n) (h2 : n ≤ 16) {X Y : Nat} (hXY : X ≤ 16000000000 ∧ Y ≤ 16000000000 ∧ X * Y ≤ 16000000000000000000) {x y : List Int} (hx : ∀ q : Nat, q < x.length → (rd x q).natAbs ≤ X) (hxl : x.length ≤ 100) (hy : ∀ q : Nat, q < y.length → (rd y q).natAbs ≤ Y) (hyl : y.length ≤ 100) :
    ∀ (d i : Nat) (o : List (Int × Nat)) (T : Nat → Int) (c : Nat), i + d = x.length → c + 1200 * d ≤ 200000 → Sums (cycD n) o T c →
    ∃ o', (∀ (A : Type) (z : A) (k : Nat) (K0 : List (Int × Nat) → A), d + 150 ≤ k → impl_field_product.g1 z k (n : Int) (cycP n) y x (x.length : Int) (i : Int) o K0 = K0 o') ∧
      Sums (cycD n) o' (fun j => T j + sumF i d (fun p => rd x p * sumF 0 y.length (fun q => rd y q * cycW n j (p + q)))) (c + 1200 * d)
  | 0, i, o, T, c, hm, hc, hs => by
    refine ⟨o, fun A z k K0 hk => ?_, hs.congr fun j hj => by simp [sumF]⟩
    obtain ⟨k, rfl, _⟩ := up (show 149 + 1 ≤ k by omega)
    rw [impl_field_product.g1, if_neg (by omega)]
  | d + 1, i, o, T, c, hm, hc, hs => by
    have hil : i < x.length := by omega
    obtain ⟨o1, e1, e2⟩ := prod7 h1 h2 (i := i) (by omega) hXY (hx i hil) hy (by omega) y.length 0 o T c (by omega) (by omega) hs
    obtain ⟨o', g1, g2⟩ := prod1 h1 h2 hXY hx hxl hy hyl d (i + 1) o1 _ (c + 1200) (by omega) (by omega) (e2.more (by omega))
    refine ⟨o', fun A z k K0 hk => ?_, (g2.more (by omega)).congr fun j hj => ?_⟩
    · obtain ⟨k, rfl, _⟩ := up (show d + 150 + 1 ≤ k by omega)
      rw [impl_field_product.g1, if_pos (by omega), inI_at z hil, w64_up (by omega)]
      refine Eq.trans (e1 A z k _ (by omega)) ?_
      exact g1 A z k K0 (by omega)
    · rw [sumF, Int.add_assoc]
/-- What sums are told as. -/
theorem values4 {D : Nat} {o : List (Int × Nat)} {T : Nat → Int} {c : Nat} (h : Sums D o T c) (hc : c ≤ 400000) (hD : D ≤ 1000) {A : Type} (z : A) {K0 : Bool → List Int → A} : ∀ (d i k : Nat) (ok : Bool) (l : List Int), i + d = D → l.length = i → d + 4 ≤ k →
    impl_values.g4 z k o ok (o.length : Int) (i : Int) l K0 = K0 (ok && ((List.range' i d).all fun j => fitsB (T j))) (l ++ (List.range' i d).map fun j => w64 (T j))
  | d, i, 0, ok, l, _, _, hk => absurd hk (by omega)
  | 0, i, k + 1, ok, l, hi, hl, hk => by
    rw [impl_values.g4, if_neg (by rw [h.1]; omega)]
    simp
  | d + 1, i, k + 1, ok, l, hi, hl, hk => by
    obtain ⟨k, rfl, _⟩ := up (show d + 3 + 1 ≤ k by omega)
    obtain ⟨k, rfl, _⟩ := up (show d + 2 + 1 ≤ k by omega)
    have hol := h.1
    obtain ⟨g1, g2, g3⟩ := h.2 i (by omega)
    have hf := near_fits g2 hc
    have hv : ∀ Ψ : Int → Bool → A, impl_sum_value z (k + 1 + 1) (o.getD i (0, 0)).1 (o.getD i (0, 0)).2 Ψ = Ψ (w64 (T i)) (fitsB (T i)) := by
      intro Ψ
      simp only [impl_sum_value, step_succ]
      rw [within_eq, g1, ← hf, w64_wrap]
      cases decide (-1000000000 ≤ wrap64 (T i) ∧ wrap64 (T i) ≤ 1000000000)
      · rfl
      · cases (FloatKind.format .f64).order (o.getD i (0, 0)).2 4876203697187506176 == some .lt <;> rfl
    rw [impl_values.g4, if_pos (by rw [hol]; omega), inI_at z (by omega), hv, apI_ok z (by omega), w64_up (by omega), List.range'_succ, List.all_cons, List.map_cons]
    cases ok with
    | true =>
      rw [cond_true, values4 h hc hD z d (i + 1) (k + 1 + 1) _ _ (by omega) (by simp [hl]) (by omega)]
      simp
    | false =>
      rw [cond_false, values4 h hc hD z d (i + 1) (k + 1 + 1) _ _ (by omega) (by simp [hl]) (by omega)]
      simp
theorem fits_small (T : Int) : fitsB T = decide (-1000000000 ≤ T ∧ T ≤ 1000000000) := by
  unfold fitsB
  rw [Bool.eq_iff_iff, decide_eq_true_eq, decide_eq_true_eq]
  omega
theorem times_gen {n : Nat} (h1 : 1 ≤ n) (h2 : n ≤ 16) {X Y : Nat} (hXY : X ≤ 16000000000 ∧ Y ≤ 16000000000 ∧ X * Y ≤ 16000000000000000000) {x y : List Int} (hx : within X x) (hxl : x.length ≤ 100) (hy : within Y y) (hyl : y.length ≤ 100) {A : Type} (z : A) (k : Nat) (hk : 260 ≤ k) (Φ : List Int → Bool → A) :
    impl_field_times z k (n : Int) (cycD n : Int) (cycP n) x y Φ = Φ (tab (cycD n) fun m => w64 (bil n x y m)) (okB n x y) := by
  have C := cyc_facts h1 h2
  have hD := C.le12
  obtain ⟨o', g1, g2⟩ := prod1 h1 h2 hXY (x := x) (y := y) (fun q hq => by have := hx q hq; omega) hxl (fun q hq => by have := hy q hq; omega) hyl x.length 0 _ _ 0 (by omega) (by omega) (sums_zero (cycD n))
  obtain ⟨k, rfl⟩ := le_ex (show 2 ≤ k by omega)
  simp only [impl_field_times, impl_field_product, impl_values, step_succ]
  rw [mkI_at z (by omega)]
  refine Eq.trans (g1 A z (k) _ (by omega)) ?_
  refine Eq.trans (values4 g2 (by omega) (by omega) z (cycD n) 0 k true [] (by omega) rfl (by omega)) ?_
  rw [Bool.true_and, List.nil_append, ← List.range_eq_range']
  have e1 : (List.range (cycD n)).map (fun j => w64 (0 + sumF 0 x.length (fun p => rd x p * sumF 0 y.length (fun q => rd y q * cycW n j (p + q))))) = tab (cycD n) fun m => w64 (bil n x y m) :=
    List.map_congr_left fun j _ => by rw [Int.zero_add]; rfl
  have e2 : ((List.range (cycD n)).all fun j => fitsB (0 + sumF 0 x.length (fun p => rd x p * sumF 0 y.length (fun q => rd y q * cycW n j (p + q))))) = okB n x y := by
    rw [Bool.eq_iff_iff]
    unfold okB
    rw [smallL_tab, List.all_eq_true]
    constructor
    · intro h m hm
      have := h m (List.mem_range.2 hm)
      rw [fits_small, Int.zero_add, decide_eq_true_eq] at this
      exact this
    · intro h m hm
      rw [fits_small, Int.zero_add, decide_eq_true_eq]
      exact h m (List.mem_range.1 hm)
  rw [← e1, ← e2]
theorem times_eq {n : Nat} (h1 : 1 ≤ n) (h2 : n ≤ 16) {x y : List Int} (hx : within 1000000000 x) (hxl : x.length ≤ 100) (hy : within 16000000000 y) (hyl : y.length ≤ 100) {A : Type} (z : A) (k : Nat) (hk : 260 ≤ k) (Φ : List Int → Bool → A) :
    impl_field_times z k (n : Int) (cycD n : Int) (cycP n) x y Φ = Φ (tab (cycD n) fun m => w64 (bil n x y m)) (okB n x y) :=
  times_gen h1 h2 (X := 1000000000) (Y := 16000000000) (by decide) hx hxl hy hyl z k hk Φ
theorem times_eq2 {n : Nat} (h1 : 1 ≤ n) (h2 : n ≤ 16) {x y : List Int} (hx : within 16000000000 x) (hxl : x.length ≤ 100) (hy : within 1000000000 y) (hyl : y.length ≤ 100) {A : Type} (z : A) (k : Nat) (hk : 260 ≤ k) (Φ : List Int → Bool → A) :
    impl_field_times z k (n : Int) (cycD n : Int) (cycP n) x y Φ = Φ (tab (cycD n) fun m => w64 (bil n x y m)) (okB n x y) :=
  times_gen h1 h2 (X := 16000000000) (Y := 1000000000) (by decide) hx hxl hy hyl z k hk Φ
end Go.Proofs.Ytefdcoeidpbcjaa.F
/- Facts on the functions of the first layer, whole: images, conjugates, products, sums. -/
namespace Go.Proofs.Ytefdcoeidpbcjaa.F
open Go.RowKit Go.Proofs.Ytefdcoeidpbcjaa.R
set_option linter.unusedVariables false
set_option linter.unusedSimpArgs false
def told3 (n : Int) (l : List Int) : Int × List Int × Int := if smallL l = true then (n, l, 0) else (0, [], 3)
def gal3 (n : Int) (x : List Int) (a : Int) : Int × List Int × Int := if isC n x = true then (if (1 ≤ a ∧ a ≤ n) ∧ Int.gcd a n = 1 then told3 n (imT n.toNat x a) else (0, [], 2)) else (0, [], 1)
def bar3 (n : Int) (x : List Int) : Int × List Int × Int := if isC n x = true then told3 n (imT n.toNat x (-1)) else (0, [], 1)
def mul3 (m : Int) (x : List Int) (n : Int) (y : List Int) : Int × List Int × Int := if codeC m x n y ≠ 0 then (0, [], codeC m x n y) else match mulO m.toNat x y with
  | some l => (m, l, 0)
  | none => (0, [], 3)
def plusL (x y : List Int) (k : Int) : List Int := addIn y k 0 y.length 0 x
def add3 (m : Int) (x : List Int) (n : Int) (y : List Int) (k : Int) : Int × List Int × Int := if codeC m x n y ≠ 0 then (0, [], codeC m x n y) else if -1000 ≤ k ∧ k ≤ 1000 then told3 m (plusL x y k) else (0, [], 2)
def real2 (n : Int) (x : List Int) : Bool × Int := if isC n x = true then (decide (imT n.toNat x (-1) = x), 0) else (false, 1)
theorem imT_len (n : Nat) (x : List Int) (a : Int) : (imT n x a).length = cycD n := tab_length _ _
theorem isC_x {n : Int} {x : List Int} (h : isC n x = true) : ∃ m : Nat, n = m ∧ 1 ≤ m ∧ m ≤ 16 ∧ x.length = cycD m ∧ x.length ≤ 12 ∧ GoodZ m x := by
  obtain ⟨⟨m, h1, h2, h3, h4⟩, h5⟩ := isC_len h
  have := le12 h2 h3
  exact ⟨m, h1, h2, h3, h4, by omega, h4, smallL_within.1 h5⟩
theorem codeC_zero {m n : Int} {x y : List Int} (h : codeC m x n y = 0) : isC m x = true ∧ isC n y = true ∧ m = n := by
  unfold codeC at h
  cases h1 : isC m x <;> cases h2 : isC n y <;> simp [h1, h2] at h
  exact ⟨rfl, rfl, h⟩
section
variable {A : Type} (z : A)
theorem cycloOf3_eq {l : List Int} (hl : l.length ≤ 1000000) (n : Int) (k : Nat) (hk : l.length + 9 ≤ k) (Φ : Int → List Int → Int → A) : impl_cycloOf z k n l Φ = Φ (told3 n l).1 (told3 n l).2.1 (told3 n l).2.2 := by
  rw [cycloOf_eq z hl n k hk]
  unfold told3
  cases smallL l <;> rfl
end
end Go.Proofs.Ytefdcoeidpbcjaa.F
/- Facts on the functions of the first layer, whole: lifts, and fields within fields. -/
namespace Go.Proofs.Ytefdcoeidpbcjaa.F
open Go.RowKit Go.Proofs.Ytefdcoeidpbcjaa.R
set_option linter.unusedVariables false
set_option linter.unusedSimpArgs false
def liftT (m s : Nat) (x : List Int) : List Int := tab (cycD m) fun j => w64 (galQ m x (fun i => i * s % m) j)
def lift3 (n : Int) (x : List Int) (m : Int) : Int × List Int × Int := if isC n x = true then (if 1 ≤ m ∧ m ≤ 16 then (if m.toNat % n.toNat = 0 then told3 m (liftT m.toNat (m.toNat / n.toNat) x) else (0, [], 2)) else (0, [], 2)) else (0, [], 1)
def liftIn (s : Nat) (x : List Int) : Nat → Nat → List Int → List Int
  | 0, _, L => L
  | d + 1, i, L => liftIn s x d (i + 1) (L.set (i * s) (rd x i))
theorem liftIn_length (s : Nat) (x : List Int) : ∀ (d i : Nat) (L : List Int), (liftIn s x d i L).length = L.length
  | 0, i, L => rfl
  | d + 1, i, L => by unfold liftIn; rw [liftIn_length s x d, List.length_set]
theorem liftIn_facts {s : Nat} (hs : 1 ≤ s) (x : List Int) (hx : ∀ q : Nat, q < x.length → (rd x q).natAbs ≤ 1000000000) : ∀ (d i : Nat) (L : List Int), i + d = x.length → x.length * s ≤ L.length → (∀ j, i ≤ j → j < x.length → rd L (j * s : Nat) = 0) → Wrapped L →
    Wrapped (liftIn s x d i L) ∧ ∀ w : Nat → Int, dot (liftIn s x d i L) w = dot L w + sumF i d (fun p => rd x p * w (p * s))
  | 0, i, L, hi, hl, hz, hw => ⟨hw, fun w => by simp [liftIn, sumF]⟩
  | d + 1, i, L, hi, hl, hz, hw => by
    have hq : i * s < L.length := Nat.lt_of_lt_of_le (Nat.mul_lt_mul_of_pos_right (show i < x.length by omega) hs) hl
    have hxi := hx i (by omega)
    have hv : rd x i = wrap64 (rd x i) := (wrap_id (by omega) (by omega)).symm
    obtain ⟨g1, g2⟩ := liftIn_facts hs x hx d (i + 1) (L.set (i * s) (rd x i)) (by omega) (by rw [List.length_set]; exact hl) (fun j h1 h2 => by
      rw [rd_set _ _ _ _ (Nat.lt_of_lt_of_le (Nat.mul_lt_mul_of_pos_right h2 hs) hl), if_neg (fun e => by have := Nat.eq_of_mul_eq_mul_right hs e; omega)]
      exact hz j (by omega) h2) (by rw [hv]; exact hw.set _ _)
    refine ⟨g1, fun w => ?_⟩
    show dot (liftIn s x d (i + 1) (L.set (i * s) (rd x i))) w = _
    rw [g2 w, dot_set _ _ _ _ hq, hz i (Nat.le_refl _) (by omega), sumF, Int.sub_zero, Int.add_assoc]
section
variable {A : Type} (z : A)
theorem lift_mod {m n : Nat} (h1 : 1 ≤ n) (hm : m ≤ 16) (hd : m % n = 0) {i : Nat} (hi : i < n) : i * (m / n) ≤ m ∧ (1 ≤ m → 1 ≤ m / n) := by
  have e := Nat.div_add_mod m n
  rw [hd, Nat.add_zero] at e
  refine ⟨?_, fun h => ?_⟩
  · have := Nat.mul_le_mul_right (m / n) (Nat.le_of_lt hi)
    omega
  · rcases Nat.eq_zero_or_pos (m / n) with h0 | h0
    · rw [h0] at e; omega
    · exact h0
theorem tdiv_nat (m n : Nat) : Int.tdiv (m : Int) (n : Int) = ((m / n : Nat) : Int) := by rw [Int.tdiv_eq_ediv_of_nonneg (by omega)]; rfl
theorem tmod_nat (m n : Nat) : Int.tmod (m : Int) (n : Int) = ((m % n : Nat) : Int) := by rw [Int.tmod_eq_emod_of_nonneg (by omega)]; rfl
end
end Go.Proofs.Ytefdcoeidpbcjaa.F
/- Facts on the functions of the first layer, whole: what lies in a field. -/
namespace Go.Proofs.Ytefdcoeidpbcjaa.F
open Go.RowKit Go.Proofs.Ytefdcoeidpbcjaa.R
set_option linter.unusedVariables false
set_option linter.unusedSimpArgs false
def allF (n m : Nat) (x : List Int) : Nat → Nat → Bool
  | 0, _ => true
  | d + 1, a => if (a - 1) % m = 0 ∧ Nat.gcd a n = 1 then (if imT n x (a : Int) = x then allF n m x d (a + 1) else false) else allF n m x d (a + 1)
def inF (n : Int) (x : List Int) (m : Int) : Bool × Int := if isC n x = true then (if 1 ≤ m ∧ n.toNat % m.toNat = 0 then (allF n.toNat m.toNat x n.toNat 1, 0) else (false, 2)) else (false, 1)
theorem one_mod {a m : Nat} (ha : 1 ≤ a) : (a - 1) % m = 0 ↔ a % m = 1 % m := by
  obtain ⟨b, rfl⟩ : ∃ b, a = b + 1 := ⟨a - 1, by omega⟩
  rw [Nat.add_sub_cancel]
  constructor
  · intro h; rw [Nat.add_mod, h, Nat.zero_add, Nat.mod_mod]
  · intro h
    have h1 : ((b + 1) - 1) % m = 0 := Nat.sub_mod_eq_zero_of_mod_eq h
    simpa using h1
section
variable {A : Type} (z : A)
end
end Go.Proofs.Ytefdcoeidpbcjaa.F
/- Facts on the functions of the first layer, whole: what is drawn. -/
namespace Go.Proofs.Ytefdcoeidpbcjaa.F
open Go.RowKit Go.Proofs.Ytefdcoeidpbcjaa.R
set_option linter.unusedVariables false
set_option linter.unusedSimpArgs false
def Src (c : List Int) (i : Int) : Prop := c.length ≤ 4096 ∧ (∀ x ∈ c, 0 ≤ x ∧ x ≤ 255) ∧ 0 ≤ i ∧ i ≤ (c.length : Int)
theorem mask_bd (y : Int) : 0 ≤ wu64 ((BitVec.ofInt 64 y &&& BitVec.ofInt 64 1073741823).toNat : Int) ∧ wu64 ((BitVec.ofInt 64 y &&& BitVec.ofInt 64 1073741823).toNat : Int) ≤ 1073741823 := by
  have h : (BitVec.ofInt 64 y &&& BitVec.ofInt 64 1073741823).toNat ≤ 1073741823 := by
    rw [BitVec.toNat_and]
    exact Nat.le_trans Nat.and_le_right (by decide)
  generalize (BitVec.ofInt 64 y &&& BitVec.ofInt 64 1073741823).toNat = q at h
  rw [show wu64 (q : Int) = q by rw [wu64_def]; omega]
  omega
def stir (h : Int) : Int := wu64 (wu64 (h * 6364136223846793005) + 1442695040888963407)
def pull (h : Int) : Int := wu64 ((BitVec.ofInt 64 ((stir h).fdiv (2 ^ (31))) &&& BitVec.ofInt 64 1073741823).toNat : Int)
section
variable {A : Type} (z : A)
theorem next_eq {c : List Int} {i : Int} (hs : Src c i) (h n : Int) : ∃ i' h' v, (Src c i' ∧ 0 ≤ v ∧ (1 ≤ n → v < n) ∧ (n < 1 → v = 0)) ∧ ∀ k, 1 ≤ k → ∀ Φ : List Int → Int → Int → Int → A, spec_l01Next z k c i h n Φ = Φ c i' h' v := by
  obtain ⟨hc, hb, h0, h1⟩ := hs
  by_cases e : n < 1
  · refine ⟨i, h, 0, ⟨⟨hc, hb, h0, h1⟩, Int.le_refl _, by omega, fun _ => rfl⟩, fun k hk Φ => ?_⟩
    obtain ⟨k, rfl⟩ := le_ex hk
    simp only [spec_l01Next, step_succ]
    rw [if_pos e]
  · obtain ⟨m0, m1⟩ := mask_bd ((stir h).fdiv (2 ^ (31)))
    have m0 : 0 ≤ pull h := m0
    have m1 : pull h ≤ 1073741823 := m1
    by_cases e2 : i < (c.length : Int)
    · obtain ⟨i, rfl⟩ := Int.eq_ofNat_of_zero_le h0
      have hi : i < c.length := by omega
      have hr : 0 ≤ c.getD i 0 ∧ c.getD i 0 ≤ 255 := by rw [getD_at hi]; exact hb _ (List.getElem_mem hi)
      refine ⟨((i + 1 : Nat) : Int), stir h, (w64 (w64 (pull h) + w64 (c.getD i 0))).tmod n, ⟨⟨hc, hb, by omega, by omega⟩, ?_, fun hn => Int.tmod_lt_of_pos _ (by omega), fun hn => absurd hn e⟩, fun k hk Φ => ?_⟩
      · refine Int.tmod_nonneg _ ?_
        rw [w64_id (x := pull h) (by omega) (by omega), w64_id (x := c.getD i 0) (by omega) (by omega), w64_id (by omega) (by omega)]
        omega
      · obtain ⟨k, rfl⟩ := le_ex hk
        simp only [spec_l01Next, step_succ]
        rw [if_neg e, if_pos e2, inI_at z hi, gd_ok z (by omega), w64_up (by omega)]
        rfl
    · refine ⟨i, stir h, (w64 (pull h)).tmod n, ⟨⟨hc, hb, h0, h1⟩, ?_, fun hn => Int.tmod_lt_of_pos _ (by omega), fun hn => absurd hn e⟩, fun k hk Φ => ?_⟩
      · refine Int.tmod_nonneg _ ?_
        rw [w64_id (by omega) (by omega)]
        omega
      · obtain ⟨k, rfl⟩ := le_ex hk
        simp only [spec_l01Next, step_succ]
        rw [if_neg e, if_neg e2, gd_ok z (by omega)]
        rfl
theorem pick_eq {c : List Int} {i : Int} (hs : Src c i) (h : Int) (l : List Int) (hl : l ≠ []) : ∃ i' h' v, (Src c i' ∧ v ∈ l) ∧ ∀ k, 2 ≤ k → ∀ Φ : List Int → Int → Int → Int → A, spec_l01Pick z k c i h l Φ = Φ c i' h' v := by
  have hp : 0 < l.length := List.length_pos_iff.2 hl
  obtain ⟨i', h', v, ⟨s, v0, v1, _⟩, e⟩ := next_eq z hs h (l.length : Int)
  have v2 := v1 (by omega)
  obtain ⟨j, rfl⟩ := Int.eq_ofNat_of_zero_le v0
  have hj : j < l.length := by omega
  refine ⟨i', h', l.getD j 0, ⟨s, by rw [getD_at hj]; exact List.getElem_mem _⟩, fun k hk Φ => ?_⟩
  obtain ⟨k, rfl⟩ := le_ex hk
  simp only [spec_l01Pick, step_succ]
  rw [e _ (by omega), inI_at z hj]
theorem from_g {c : List Int} (hc : c.length ≤ 4096) : ∀ (d i : Nat) (h : Int), i + d = c.length → ∃ h', ∀ k, d + 1 ≤ k → ∀ K0 : Int → A, spec_l01From.g4 z k c (i : Int) h K0 = K0 h'
  | 0, i, h, hi => ⟨h, fun k hk K0 => by
    obtain ⟨k, rfl⟩ := le_ex hk
    rw [spec_l01From.g4, if_neg (by omega)]⟩
  | d + 1, i, h, hi => by
    obtain ⟨h', e⟩ := from_g hc d (i + 1) (wu64 ((wu64 ((wu64 (h * 1099511628211)) + (wu64 (c.getD i 0)))) + 131)) (by omega)
    refine ⟨h', fun k hk K0 => ?_⟩
    obtain ⟨k, rfl, hk⟩ := up hk
    rw [spec_l01From.g4, if_pos (by omega), if_pos (by omega), inI_at z (by omega), w64_up (by omega), e k (by omega)]
theorem from_eq {c : List Int} (hc : c.length ≤ 4096) (hb : ∀ x ∈ c, 0 ≤ x ∧ x ≤ 255) : ∃ h i, Src c i ∧ ∀ k, 4098 ≤ k → ∀ Φ : List Int → Int → Int → A, spec_l01From z k c Φ = Φ c i h := by
  obtain ⟨h, e⟩ := from_g z hc c.length 0 (wu64 (13131 + (wu64 (c.length : Int)))) (by omega)
  refine ⟨h, 0, ⟨hc, hb, by omega, by omega⟩, fun k hk Φ => ?_⟩
  obtain ⟨k, rfl⟩ := le_ex (show 1 ≤ k by omega)
  simp only [spec_l01From, step_succ]
  exact e _ (by omega) _
theorem drawOrder_eq {c : List Int} {i : Int} (hs : Src c i) (h : Int) : ∃ i' h' v, (Src c i' ∧ 1 ≤ v ∧ v ≤ 16) ∧ ∀ k, 3 ≤ k → ∀ Φ : List Int → Int → Int → Int → A, spec_l01DrawOrder z k c i h Φ = Φ c i' h' v := by
  obtain ⟨i1, h1, v1, ⟨s1, v0, v2, _⟩, e1⟩ := next_eq z hs h 16
  have v2 := v2 (by omega)
  obtain ⟨i2, h2, v, ⟨s2, hv⟩, e2⟩ := pick_eq z s1 h1 [1, 2, 3, 3, 4, 4, 5, 5, 6, 7, 8, 9, 10, 12, (w64 (1 + v1))] (by simp)
  rw [w64_id (by omega) (by omega)] at hv e2
  refine ⟨i2, h2, v, ⟨s2, ?_⟩, fun k hk Φ => ?_⟩
  · simp only [List.mem_cons, List.not_mem_nil, or_false] at hv
    omega
  · obtain ⟨k, rfl⟩ := le_ex hk
    simp only [spec_l01DrawOrder, step_succ]
    rw [e1 _ (by omega), w64_id (by omega) (by omega), e2 _ (by omega)]
theorem within_set {B : Int} {o : List Int} (h : within B o) (j : Nat) {v : Int} (hv : -B ≤ v ∧ v ≤ B) : within B (o.set j v) := by
  intro q hq
  rw [List.length_set] at hq
  rw [rd_set _ _ _ _ hq]
  split
  · exact hv
  · exact h q hq
end
end Go.Proofs.Ytefdcoeidpbcjaa.F
/- What images, conjugates, sums and lifts keep to. Plain. -/
namespace Go.Proofs.Ytefdcoeidpbcjaa.F
open Go.RowKit Go.Proofs.Ytefdcoeidpbcjaa.R
set_option linter.unusedVariables false
set_option linter.unusedSimpArgs false
theorem imT_nat {n : Nat} (h1 : 1 ≤ n) (h2 : n ≤ 16) {x : List Int} (hx : GoodZ n x) (a : Nat) : imT n x (a : Int) = tab (cycD n) (galN n x a) := by
  have C := cyc_facts h1 h2
  have := C.le12
  refine tab_congr fun m hm => ?_
  have h := gal_le C h1 (B := 1000000000) (by omega) hx.2 (by rw [hx.1]; omega) (a : Int) m
  rw [wrap_id (by omega) (by omega), gal_nat]
theorem gal_neg {n : Nat} (h1 : 1 ≤ n) (x : List Int) (m : Nat) : gal n x (-1) m = gal n x ((n - 1 : Nat) : Int) m := by
  unfold gal
  refine sumF_congr _ 0 fun i _ _ => ?_
  have e : ((i : Int) * ((n - 1 : Nat) : Int)) % (n : Int) = ((i : Int) * (-1)) % (n : Int) := by
    have e1 : (i : Int) * ((n - 1 : Nat) : Int) = (i : Int) * (-1) + (i : Int) * n := by
      rw [← Int.mul_add]
      congr 1
      omega
    rw [e1, Int.add_mul_emod_self_right]
  rw [e]
theorem imT_neg {n : Nat} (h1 : 1 ≤ n) (x : List Int) : imT n x (-1) = imT n x ((n - 1 : Nat) : Int) := tab_congr fun m _ => by rw [gal_neg h1]
theorem neg_tab : ∀ n : Nat, 1 ≤ n → n ≤ 16 → Nat.gcd (n - 1) n = 1 ∧ (n - 1) * (n - 1) % n = 1 % n :=
  by16 (by decide) (by decide) (by decide) (by decide) (by decide) (by decide) (by decide) (by decide) (by decide) (by decide) (by decide) (by decide) (by decide) (by decide) (by decide) (by decide)
theorem rd_imT {n : Nat} (x : List Int) (a : Int) {j : Nat} (hj : j < cycD n) : rd (imT n x a) j = wrap64 (gal n x a j) := tab_rd _ _ _ hj
/-- An image of a square is the square of the image. -/
theorem image_square {n : Nat} (h1 : 1 ≤ n) (h2 : n ≤ 16) {x y P Q : List Int} (hx : GoodZ n x) (hy : GoodZ n y) {a : Nat} (ha : Nat.gcd a n = 1) (hP : mulO n x y = some P) (hQ : mulO n (imT n x (a : Int)) (imT n y (a : Int)) = some Q) : imT n P (a : Int) = Q := by
  rw [imT_nat h1 h2 (mulO_good hP), ]
  rw [imT_nat h1 h2 hx, imT_nat h1 h2 hy] at hQ
  unfold mulO at hP hQ
  split at hP
  · split at hQ
    · cases hP
      cases hQ
      exact tab_congr fun m hm => gal_bil h1 h2 a ha x y m hm
    · cases hQ
  · cases hP
theorem bar_bar {n : Nat} (h1 : 1 ≤ n) (h2 : n ≤ 16) {x : List Int} (hx : GoodZ n x) (hy : GoodZ n (imT n x (-1))) : imT n (imT n x (-1)) (-1) = x := by
  obtain ⟨g, s⟩ := neg_tab n h1 h2
  rw [imT_neg h1 (imT n x (-1)), imT_nat h1 h2 hy, imT_neg h1, imT_nat h1 h2 hx]
  refine (tab_ext hx.1 fun m hm => ?_).symm
  rw [gal_gal h1 h2 _ _ g x m hm, gal_one (cyc_facts h1 h2) x hx.1 _ s m hm]
theorem plusL_length (x y : List Int) (v : Int) : (plusL x y v).length = x.length := addIn_length y v 0 y.length 0 x
theorem good_wrapped {n : Nat} {x : List Int} (hx : GoodZ n x) : Wrapped x := fun j hj => by
  have := hx.2 j hj
  exact wrap_id (by omega) (by omega)
theorem plusL_rd {n : Nat} {x y : List Int} (hx : GoodZ n x) (hy : GoodZ n y) (hs : GoodZ n (plusL x y 1)) {j : Nat} (hj : j < cycD n) : rd (plusL x y 1) j = rd x j + rd y j := by
  have l1 := hx.1
  have l2 := hy.1
  obtain ⟨a1, a2, a3⟩ := addIn_facts y 1 0 y.length 0 x (by omega) (good_wrapped hx)
  have h := a3 (fun i => if j = i then 1 else 0)
  have e : sumF 0 y.length (fun i => rd y i * (if j = 0 + i then 1 else 0)) = rd y j := by
    have := dot_one y j (by omega)
    unfold dot at this
    rw [← this]
    exact sumF_congr _ 0 fun i _ _ => by rw [Nat.zero_add]
  have hl : j < (addIn y 1 0 y.length 0 x).length := by rw [a1]; omega
  rw [e, dot_one x j (by omega), dot_one _ j hl, Int.one_mul] at h
  have := h.eq
  have b1 := hx.2 j (by omega)
  have b2 := hy.2 j (by omega)
  have b3 := hs.2 j (by rw [plusL_length]; omega)
  unfold plusL at b3 ⊢
  rw [wrap_id (x := rd x j + rd y j) (by omega) (by omega), wrap_id (by omega) (by omega)] at this
  exact this
theorem galN_plus {n : Nat} {x y s : List Int} (hx : x.length = cycD n) (hy : y.length = cycD n) (hs : s.length = cycD n) (h : ∀ j : Nat, j < cycD n → rd s j = rd x j + rd y j) (a m : Nat) : galN n s a m = galN n x a m + galN n y a m := by
  unfold galN
  rw [hx, hy, hs, ← sumF_add]
  exact sumF_congr _ 0 fun i _ hi => by rw [h i (by omega), Int.add_mul]
theorem plus_bar {n : Nat} (h1 : 1 ≤ n) (h2 : n ≤ 16) {x : List Int} (hx : GoodZ n x) (hy : GoodZ n (imT n x (-1))) (hs : GoodZ n (plusL x (imT n x (-1)) 1)) : imT n (plusL x (imT n x (-1)) 1) (-1) = plusL x (imT n x (-1)) 1 := by
  obtain ⟨g, s⟩ := neg_tab n h1 h2
  have bb := bar_bar h1 h2 hx hy
  have hp := fun {j : Nat} (hj : j < cycD n) => plusL_rd hx hy hs hj
  have e1 : imT n x (-1) = tab (cycD n) (galN n x (n - 1)) := by rw [imT_neg h1, imT_nat h1 h2 hx]
  have e2 : imT n (imT n x (-1)) (-1) = tab (cycD n) (galN n (imT n x (-1)) (n - 1)) := by rw [imT_neg h1 (imT n x (-1)), imT_nat h1 h2 hy]
  rw [imT_neg h1 (plusL x (imT n x (-1)) 1), imT_nat h1 h2 hs]
  refine (tab_ext hs.1 fun m hm => ?_).symm
  rw [hp hm, galN_plus hx.1 hy.1 hs.1 (fun j hj => hp hj)]
  have f1 : rd (imT n x (-1)) m = galN n x (n - 1) m := by rw [e1, tab_rd _ _ _ hm]
  have f2 : rd x m = galN n (imT n x (-1)) (n - 1) m := by
    have := tab_rd (cycD n) (galN n (imT n x (-1)) (n - 1)) m hm
    rw [← this, ← e2, bb]
  omega
theorem galQ_le {n : Nat} (C : CycFacts n) (hn : 1 ≤ n) {x : List Int} (hx : within 1000000000 x) (hl : x.length ≤ 12) (q : Nat → Nat) (m : Nat) : -12000000000 ≤ galQ n x q m ∧ galQ n x q m ≤ 12000000000 := by
  have h := sumF_le (B := 1000000000) (f := fun i => rd x i * cycW n m (q i)) x.length 0 (fun i _ hi => by
    have := mul_le (hx i (by omega)) (cycW_small C hn m (q i))
    omega)
  unfold galQ
  omega
theorem lift_kept {n m : Nat} (h1 : 1 ≤ n) (h2 : n ≤ 16) (m1 : 1 ≤ m) (m2 : m ≤ 16) (hd : m % n = 0) {x : List Int} (hx : GoodZ n x) (hL : GoodZ m (liftT m (m / n) x)) {a : Nat} (ha1 : 1 ≤ a) (ha : Nat.gcd a m = 1) (hm : (a - 1) % n = 0) : imT m (liftT m (m / n) x) (a : Int) = liftT m (m / n) x := by
  have C := cyc_facts m1 m2
  have Cn := cyc_facts h1 h2
  have := Cn.le12
  have lx := hx.1
  have e : liftT m (m / n) x = tab (cycD m) (galQ m x (fun i => i * (m / n) % m)) := tab_congr fun j _ => by
    have := galQ_le C m1 hx.2 (by omega) (fun i => i * (m / n) % m) j
    exact w64_id (by omega) (by omega)
  rw [imT_nat m1 m2 hL, e]
  refine tab_congr fun j hj => ?_
  rw [gal_galQ m1 m2 a ha x _ j hj]
  unfold galQ
  refine sumF_congr _ 0 fun i _ _ => congrArg (rd x i * ·) ?_
  rw [cycW_mul, ← cycW_mod m j (i * (m / n) * a), ← cycW_mod m j (i * (m / n) % m), Nat.mod_mod]
  congr 1
  obtain ⟨t, ht⟩ : ∃ t, a = 1 + n * t := ⟨(a - 1) / n, by have := Nat.div_add_mod (a - 1) n; omega⟩
  have hs : n * (m / n) = m := by have := Nat.div_add_mod m n; omega
  rw [ht, Nat.mul_add, Nat.mul_one, show i * (m / n) * (n * t) = m * (i * t) by rw [Nat.mul_assoc, ← Nat.mul_assoc (m / n), Nat.mul_comm (m / n) n, hs, Nat.mul_left_comm], Nat.add_mul_mod_self_left]
theorem allF_true {n m : Nat} {x : List Int} (h : ∀ a : Nat, 1 ≤ a → Nat.gcd a n = 1 → (a - 1) % m = 0 → imT n x (a : Int) = x) : ∀ (d a : Nat), 1 ≤ a → allF n m x d a = true
  | 0, a, _ => rfl
  | d + 1, a, ha => by
    rw [allF]
    by_cases c : (a - 1) % m = 0 ∧ Nat.gcd a n = 1
    · rw [if_pos c, if_pos (h a ha c.2 c.1), allF_true h d (a + 1) (by omega)]
    · rw [if_neg c, allF_true h d (a + 1) (by omega)]
end Go.Proofs.Ytefdcoeidpbcjaa.F
/- What the functions of the first layer answer, when they answer. Plain. -/
namespace Go.Proofs.Ytefdcoeidpbcjaa.F
open Go.RowKit Go.Proofs.Ytefdcoeidpbcjaa.R
set_option linter.unusedVariables false
set_option linter.unusedSimpArgs false
theorem told3_zero {n : Int} {l : List Int} (h : (told3 n l).2.2 = 0) : smallL l = true ∧ told3 n l = (n, l, 0) := by
  unfold told3 at h ⊢
  split at h
  · rename_i c; exact ⟨c, if_pos c⟩
  · exact absurd h (by decide)
theorem isC_of {n : Nat} (h1 : 1 ≤ n) (h2 : n ≤ 16) {l : List Int} (hl : l.length = cycD n) (hs : smallL l = true) : isC (n : Int) l = true := by
  unfold isC
  rw [decide_eq_true (show 1 ≤ (n : Int) ∧ (n : Int) ≤ 16 by omega), Int.toNat_natCast, decide_eq_true hl, hs]
  rfl
theorem told3_len (n : Int) (l : List Int) : (told3 n l).2.1.length ≤ l.length := by
  unfold told3
  split
  · exact Nat.le_refl _
  · exact Nat.zero_le _
theorem gal3_zero {n a : Int} {x : List Int} (h : (gal3 n x a).2.2 = 0) : ∃ m b : Nat, n = m ∧ a = b ∧ 1 ≤ m ∧ m ≤ 16 ∧ GoodZ m x ∧ 1 ≤ b ∧ b ≤ m ∧ Nat.gcd b m = 1 ∧ smallL (imT m x (b : Int)) = true ∧ gal3 n x a = ((m : Int), imT m x (b : Int), 0) := by
  unfold gal3 at h ⊢
  split at h
  · rename_i c
    obtain ⟨m, rfl, h1, h2, h3, h4, h5⟩ := isC_x c
    rw [Int.toNat_natCast] at h ⊢
    split at h
    · rename_i c2
      obtain ⟨b, rfl⟩ : ∃ j : Nat, a = j := ⟨a.toNat, by omega⟩
      obtain ⟨s, e⟩ := told3_zero h
      exact ⟨m, b, rfl, rfl, h1, h2, h5, by omega, by omega, c2.2, s, by rw [if_pos c, if_pos c2, e]⟩
    · exact absurd h (by decide)
  · exact absurd h (by decide)
theorem gal3_len {n a : Int} {x : List Int} : (gal3 n x a).2.1.length ≤ 12 := by
  unfold gal3
  split
  · rename_i c
    obtain ⟨m, rfl, h1, h2, h3, h4, h5⟩ := isC_x c
    split
    · refine Nat.le_trans (told3_len _ _) ?_
      rw [imT_len, Int.toNat_natCast]
      exact le12 h1 h2
    · exact Nat.zero_le _
  · exact Nat.zero_le _
theorem mul3_zero {m n : Int} {x y : List Int} (h : (mul3 m x n y).2.2 = 0) : ∃ P, isC m x = true ∧ isC n y = true ∧ m = n ∧ mulO m.toNat x y = some P ∧ mul3 m x n y = (m, P, 0) := by
  unfold mul3 at h ⊢
  split at h
  · rename_i c; exact absurd h c
  · rename_i c
    obtain ⟨c1, c2, c3⟩ := codeC_zero (Decidable.of_not_not c)
    rw [if_neg c]
    cases e : mulO m.toNat x y with
    | none =>
      rw [e] at h
      have h : (3 : Int) = 0 := h
      omega
    | some P => exact ⟨P, c1, c2, c3, rfl, rfl⟩
theorem mul3_len {m n : Int} {x y : List Int} : (mul3 m x n y).2.1.length ≤ 12 := by
  unfold mul3
  split
  · exact Nat.zero_le _
  · rename_i c
    obtain ⟨c1, c2, c3⟩ := codeC_zero (Decidable.of_not_not c)
    obtain ⟨m, rfl, h1, h2, h3, h4, h5⟩ := isC_x c1
    rw [Int.toNat_natCast]
    cases e : mulO m x y with
    | none => exact Nat.zero_le _
    | some P =>
      have := (mulO_good e).1
      have := le12 h1 h2
      show P.length ≤ 12
      omega
/-- The square's image, and the image's square. -/
theorem square_kept {n a : Int} {x : List Int} (h : (gal3 n x a).2.2 = 0) (h1 : (mul3 n x n x).2.2 = 0) (h2 : (gal3 (mul3 n x n x).1 (mul3 n x n x).2.1 a).2.2 = 0)
    (h3 : (mul3 (gal3 n x a).1 (gal3 n x a).2.1 (gal3 n x a).1 (gal3 n x a).2.1).2.2 = 0) :
    (gal3 (mul3 n x n x).1 (mul3 n x n x).2.1 a).1 = (mul3 (gal3 n x a).1 (gal3 n x a).2.1 (gal3 n x a).1 (gal3 n x a).2.1).1 ∧
    (gal3 (mul3 n x n x).1 (mul3 n x n x).2.1 a).2.1 = (mul3 (gal3 n x a).1 (gal3 n x a).2.1 (gal3 n x a).1 (gal3 n x a).2.1).2.1 := by
  obtain ⟨m, b, rfl, rfl, m1, m2, gx, b1, b2, g, s, e⟩ := gal3_zero h
  obtain ⟨P, c1, c2, c3, p1, p2⟩ := mul3_zero h1
  rw [p2] at h2 ⊢
  obtain ⟨m', b', hm, hb, _, _, gp, _, _, _, sp, ep⟩ := gal3_zero h2
  have hm : m' = m := by have : (m : Int) = m' := hm; omega
  have hb : b' = b := by omega
  subst hm hb
  rw [e] at h3 ⊢
  obtain ⟨Q, d1, d2, d3, q1, q2⟩ := mul3_zero h3
  rw [q2, ep]
  rw [Int.toNat_natCast] at p1 q1
  exact ⟨rfl, image_square m1 m2 gx gx g p1 q1⟩
theorem bar3_zero {n : Int} {x : List Int} (h : (bar3 n x).2.2 = 0) : ∃ m : Nat, n = m ∧ 1 ≤ m ∧ m ≤ 16 ∧ GoodZ m x ∧ GoodZ m (imT m x (-1)) ∧ bar3 n x = ((m : Int), imT m x (-1), 0) := by
  unfold bar3 at h ⊢
  split at h
  · rename_i c
    obtain ⟨m, rfl, h1, h2, h3, h4, h5⟩ := isC_x c
    rw [Int.toNat_natCast] at h ⊢
    obtain ⟨s, e⟩ := told3_zero h
    exact ⟨m, rfl, h1, h2, h5, ⟨imT_len _ _ _, smallL_within.1 s⟩, by rw [if_pos c, e]⟩
  · exact absurd h (by decide)
theorem bar3_of {m : Nat} (h1 : 1 ≤ m) (h2 : m ≤ 16) {x : List Int} (hx : GoodZ m x) (hy : GoodZ m (imT m x (-1))) : bar3 (m : Int) x = ((m : Int), imT m x (-1), 0) := by
  unfold bar3
  rw [if_pos (isC_of h1 h2 hx.1 (good_small hx)), Int.toNat_natCast]
  unfold told3
  rw [if_pos (good_small hy)]
theorem bar3_len {n : Int} {x : List Int} : (bar3 n x).2.1.length ≤ 12 := by
  unfold bar3
  split
  · rename_i c
    obtain ⟨m, rfl, h1, h2, h3, h4, h5⟩ := isC_x c
    refine Nat.le_trans (told3_len _ _) ?_
    rw [imT_len, Int.toNat_natCast]
    exact le12 h1 h2
  · exact Nat.zero_le _
theorem bar_kept {n : Int} {x : List Int} (h : (bar3 n x).2.2 = 0) : bar3 (bar3 n x).1 (bar3 n x).2.1 = (n, x, 0) := by
  obtain ⟨m, rfl, m1, m2, gx, gy, e⟩ := bar3_zero h
  have bb := bar_bar m1 m2 gx gy
  rw [e]
  show bar3 (m : Int) (imT m x (-1)) = _
  rw [bar3_of m1 m2 gy (by rw [bb]; exact gx), bb]
theorem add3_len {m n : Int} {x y : List Int} {v : Int} : (add3 m x n y v).2.1.length ≤ 12 := by
  unfold add3
  split
  · exact Nat.zero_le _
  · rename_i c
    obtain ⟨c1, c2, c3⟩ := codeC_zero (Decidable.of_not_not c)
    obtain ⟨m, rfl, h1, h2, h3, h4, h5⟩ := isC_x c1
    split
    · refine Nat.le_trans (told3_len _ _) ?_
      rw [plusL_length]
      exact h4
    · exact Nat.zero_le _
theorem plus_kept {n : Int} {x : List Int} (h : (bar3 n x).2.2 = 0) (h2 : (add3 n x (bar3 n x).1 (bar3 n x).2.1 1).2.2 = 0) : real2 (add3 n x (bar3 n x).1 (bar3 n x).2.1 1).1 (add3 n x (bar3 n x).1 (bar3 n x).2.1 1).2.1 = (true, 0) := by
  obtain ⟨m, rfl, m1, m2, gx, gy, e⟩ := bar3_zero h
  rw [e] at h2 ⊢
  have h2 : (add3 (m : Int) x (m : Int) (imT m x (-1)) 1).2.2 = 0 := h2
  show real2 (add3 (m : Int) x (m : Int) (imT m x (-1)) 1).1 (add3 (m : Int) x (m : Int) (imT m x (-1)) 1).2.1 = _
  unfold add3 at h2 ⊢
  split at h2
  · rename_i c; exact absurd h2 c
  · rename_i c
    rw [if_neg c]
    rw [if_pos (show -1000 ≤ (1 : Int) ∧ (1 : Int) ≤ 1000 by omega)] at h2 ⊢
    obtain ⟨s, e3⟩ := told3_zero h2
    rw [e3]
    have gs : GoodZ m (plusL x (imT m x (-1)) 1) := ⟨by rw [plusL_length]; exact gx.1, smallL_within.1 s⟩
    show real2 (m : Int) (plusL x (imT m x (-1)) 1) = _
    unfold real2
    rw [if_pos (isC_of m1 m2 gs.1 s), Int.toNat_natCast, decide_eq_true (plus_bar m1 m2 gx gy gs)]
theorem lift3_len {n m : Int} {x : List Int} : (lift3 n x m).2.1.length ≤ 12 := by
  unfold lift3
  split
  · split
    · split
      · refine Nat.le_trans (told3_len _ _) ?_
        unfold liftT
        rw [tab_length]
        exact le12 (by omega) (by omega)
      · exact Nat.zero_le _
    · exact Nat.zero_le _
  · exact Nat.zero_le _
theorem lift3_kept {n m : Int} {x : List Int} (h : (lift3 n x m).2.2 = 0) : inF (lift3 n x m).1 (lift3 n x m).2.1 n = (true, 0) := by
  unfold lift3 at h ⊢
  split at h
  · rename_i c
    obtain ⟨n, rfl, h1, h2, h3, h4, h5⟩ := isC_x c
    rw [if_pos c]
    split at h
    · rename_i c2
      obtain ⟨m, rfl⟩ : ∃ j : Nat, m = j := ⟨m.toNat, by omega⟩
      rw [if_pos c2]
      rw [Int.toNat_natCast, Int.toNat_natCast] at h ⊢
      split at h
      · rename_i c3
        rw [if_pos c3]
        obtain ⟨s, e⟩ := told3_zero h
        rw [e]
        have hl : (liftT m (m / n) x).length = cycD m := tab_length _ _
        have gs : GoodZ m (liftT m (m / n) x) := ⟨hl, smallL_within.1 s⟩
        show inF (m : Int) (liftT m (m / n) x) (n : Int) = _
        unfold inF
        rw [if_pos (isC_of (by omega) (by omega) hl s), Int.toNat_natCast, Int.toNat_natCast, if_pos ⟨by omega, c3⟩]
        rw [allF_true (fun a a1 a2 a3 => lift_kept h1 h2 (by omega) (by omega) c3 h5 gs a1 a2 a3) m 1 (by omega)]
      · exact absurd h (by decide)
    · exact absurd h (by decide)
  · exact absurd h (by decide)
end Go.Proofs.Ytefdcoeidpbcjaa.F
/- Norms of cyclotomic numbers, exact: they are rational, and the norm of a product is the product of the norms. Plain. -/
namespace Go.Proofs.Ytefdcoeidpbcjaa.F
open Go.RowKit Go.Proofs.Ytefdcoeidpbcjaa.R
set_option linter.unusedVariables false
set_option linter.unusedSimpArgs false
/-- The product, exact. -/
def mulT (n : Nat) (x y : List Int) : List Int := tab (cycD n) (bil n x y)
/-- The image, exact. -/
def imN (n : Nat) (x : List Int) (a : Nat) : List Int := tab (cycD n) (galN n x a)
/-- A whole number. -/
def ratT (n : Nat) (c : Int) : List Int := tab (cycD n) fun m => if m = 0 then c else 0
theorem mulT_len (n : Nat) (x y : List Int) : (mulT n x y).length = cycD n := tab_length _ _
theorem imN_len (n : Nat) (x : List Int) (a : Nat) : (imN n x a).length = cycD n := tab_length _ _
theorem ratT_len (n : Nat) (c : Int) : (ratT n c).length = cycD n := tab_length _ _
theorem bil_comm (n : Nat) (x y : List Int) (m : Nat) : bil n x y m = bil n y x m := by
  have e : ∀ (a b : List Int), bil n a b m = sumF 0 a.length (fun i => sumF 0 b.length (fun k => rd a i * (rd b k * cycW n m (i + k)))) := fun a b => sumF_congr _ 0 fun i _ _ => (sumF_left _ _ _ _).symm
  rw [e, e, sumF_swap]
  exact sumF_congr _ 0 fun k _ _ => sumF_congr _ 0 fun i _ _ => by rw [Int.mul_left_comm, Nat.add_comm]
theorem mulT_comm (n : Nat) (x y : List Int) : mulT n x y = mulT n y x := tab_congr fun m _ => bil_comm n x y m
theorem mulT_assoc {n : Nat} (h1 : 1 ≤ n) (h2 : n ≤ 16) (x y w : List Int) : mulT n (mulT n x y) w = mulT n x (mulT n y w) := by
  refine tab_congr fun m hm => ?_
  have L : bil n (mulT n x y) w m = sumF 0 x.length (fun i => rd x i * sumF 0 y.length (fun k => rd y k * sumF 0 w.length (fun l => rd w l * cycW n m (i + k + l)))) := by
    unfold bil
    rw [mulT_len, sumF_congr (cycD n) 0 (g := fun j => sumF 0 x.length (fun i => rd x i * sumF 0 y.length (fun k => rd y k * cycW n j (i + k))) * sumF 0 w.length (fun l => rd w l * cycW n m (j + l))) (fun j _ hj => by rw [mulT, tab_rd _ _ _ (by omega)]; rfl), lin]
    refine sumF_congr _ 0 fun i _ _ => congrArg (rd x i * ·) ?_
    rw [lin]
    refine sumF_congr _ 0 fun k _ _ => congrArg (rd y k * ·) ?_
    rw [lin2]
    exact sumF_congr _ 0 fun l _ _ => congrArg (rd w l * ·) (cyc_mul h1 h2 (i + k) l m hm)
  rw [L]
  unfold bil
  refine sumF_congr _ 0 fun i _ _ => congrArg (rd x i * ·) ?_
  rw [mulT_len, sumF_congr (cycD n) 0 (g := fun j => sumF 0 y.length (fun k => rd y k * sumF 0 w.length (fun l => rd w l * cycW n j (k + l))) * cycW n m (j + i)) (fun j _ hj => by rw [mulT, tab_rd _ _ _ (by omega), Nat.add_comm i j]; rfl), lin]
  refine sumF_congr _ 0 fun k _ _ => congrArg (rd y k * ·) ?_
  rw [lin]
  refine sumF_congr _ 0 fun l _ _ => congrArg (rd w l * ·) ?_
  rw [cyc_mul h1 h2 (k + l) i m hm]
  congr 1
  omega
theorem mulT_right {n : Nat} (h1 : 1 ≤ n) (h2 : n ≤ 16) (z w y : List Int) : mulT n (mulT n z w) y = mulT n (mulT n z y) w := by
  rw [mulT_assoc h1 h2, mulT_comm n w y, ← mulT_assoc h1 h2]
theorem mulT_four {n : Nat} (h1 : 1 ≤ n) (h2 : n ≤ 16) (z w p q : List Int) : mulT n (mulT n z w) (mulT n p q) = mulT n (mulT n z p) (mulT n w q) := by
  rw [mulT_assoc h1 h2, ← mulT_assoc h1 h2 w p q, mulT_comm n w p, mulT_assoc h1 h2 p w q, ← mulT_assoc h1 h2]
theorem dot_unit {n : Nat} (C : CycFacts n) {x : List Int} (hx : x.length = cycD n) {m : Nat} (hm : m < cycD n) : sumF 0 x.length (fun i => rd x i * cycW n m i) = rd x m := by
  rw [← dot_one x m (by omega)]
  unfold dot
  exact sumF_congr _ 0 fun i _ hi => by rw [C.unit i (by omega) m hm]
theorem rat_sum {n : Nat} (C : CycFacts n) (c : Int) (f : Nat → Int) : sumF 0 (cycD n) (fun k => rd (ratT n c) k * f k) = c * f 0 := by
  have h := sumF_hit 0 (fun k => c * f k) (cycD n) 0 (Nat.le_refl _) (by have := C.pos; omega)
  rw [← h]
  refine sumF_congr _ 0 fun k _ hk => ?_
  rw [ratT, tab_rd _ _ _ (by omega)]
  by_cases e : k = 0
  · rw [if_pos e, if_pos e.symm]
  · rw [if_neg e, if_neg (fun g => e g.symm), Int.zero_mul]
theorem bil_rat {n : Nat} (C : CycFacts n) {x : List Int} (hx : x.length = cycD n) (c : Int) {m : Nat} (hm : m < cycD n) : bil n x (ratT n c) m = c * rd x m := by
  unfold bil
  rw [ratT_len, sumF_congr _ 0 (g := fun i => c * (rd x i * cycW n m i)) (fun i _ _ => by rw [rat_sum C c, Nat.add_zero, Int.mul_left_comm]), sumF_left, dot_unit C hx hm]
theorem mulT_one {n : Nat} (C : CycFacts n) {x : List Int} (hx : x.length = cycD n) : mulT n x (ratT n 1) = x :=
  (tab_ext hx fun m hm => by rw [bil_rat C hx 1 hm, Int.one_mul]).symm
theorem rat_rat {n : Nat} (C : CycFacts n) (a b : Int) : mulT n (ratT n a) (ratT n b) = ratT n (a * b) := by
  refine tab_congr fun m hm => ?_
  rw [bil_rat C (ratT_len n a) b hm, ratT, tab_rd _ _ _ hm]
  by_cases e : m = 0
  · rw [if_pos e, if_pos e, Int.mul_comm]
  · rw [if_neg e, if_neg e, Int.mul_zero]
theorem imN_rat {n : Nat} (C : CycFacts n) (c : Int) (a : Nat) : imN n (ratT n c) a = ratT n c := by
  refine tab_congr fun m hm => ?_
  unfold galN
  rw [ratT_len, rat_sum C c, Nat.zero_mul, C.unit 0 C.pos m hm]
  by_cases e : m = 0
  · rw [if_pos e, if_pos e, Int.mul_one]
  · rw [if_neg e, if_neg e, Int.mul_zero]
theorem imN_mul {n : Nat} (h1 : 1 ≤ n) (h2 : n ≤ 16) {a : Nat} (ha : Nat.gcd a n = 1) (x y : List Int) : imN n (mulT n x y) a = mulT n (imN n x a) (imN n y a) := tab_congr fun m hm => gal_bil h1 h2 a ha x y m hm
theorem imN_imN {n : Nat} (h1 : 1 ≤ n) (h2 : n ≤ 16) (a : Nat) {b : Nat} (hb : Nat.gcd b n = 1) (x : List Int) : imN n (imN n x a) b = imN n x (a * b) := tab_congr fun m hm => gal_gal h1 h2 a b hb x m hm
theorem imN_mod (n : Nat) (x : List Int) {a b : Nat} (h : a % n = b % n) : imN n x a = imN n x b := by
  refine tab_congr fun m _ => sumF_congr _ 0 fun i _ _ => ?_
  rw [← cycW_mod n m (i * a), ← cycW_mod n m (i * b), Nat.mul_mod, h, ← Nat.mul_mod]
/-- The products of a list's numbers, exact. -/
def prodT (n : Nat) : List (List Int) → List Int → List Int
  | [], z => z
  | y :: t, z => prodT n t (mulT n z y)
theorem prodT_len (n : Nat) : ∀ (ys : List (List Int)) (z : List Int), z.length = cycD n → (prodT n ys z).length = cycD n
  | [], z, h => h
  | y :: t, z, h => prodT_len n t _ (mulT_len _ _ _)
theorem runO_prod {n : Nat} : ∀ (ys : List (List Int)) (z R : List Int), runO n ys z = some R → R = prodT n ys z
  | [], z, R, h => by unfold runO at h; cases h; rfl
  | y :: t, z, R, h => by
    unfold runO at h
    obtain ⟨z', h1, h2⟩ := Option.bind_eq_some_iff.1 h
    have e : z' = mulT n z y := by
      unfold mulO at h1
      split at h1
      · cases h1; rfl
      · cases h1
    rw [runO_prod t z' R h2, e]
    rfl
theorem prodT_mul {n : Nat} (h1 : 1 ≤ n) (h2 : n ≤ 16) (w : List Int) : ∀ (ys : List (List Int)) (z : List Int), prodT n ys (mulT n z w) = mulT n (prodT n ys z) w
  | [], z => rfl
  | y :: t, z => by
    show prodT n t (mulT n (mulT n z w) y) = mulT n (prodT n t (mulT n z y)) w
    rw [mulT_right h1 h2, prodT_mul h1 h2 w t]
theorem prodT_perm {n : Nat} (h1 : 1 ≤ n) (h2 : n ≤ 16) {ys zs : List (List Int)} (h : ys.Perm zs) : ∀ z, prodT n ys z = prodT n zs z := by
  induction h with
  | nil => intro z; rfl
  | cons a _ ih => intro z; exact ih _
  | swap a b l =>
    intro z
    show prodT n l (mulT n (mulT n z b) a) = prodT n l (mulT n (mulT n z a) b)
    rw [mulT_right h1 h2]
  | trans _ _ ih1 ih2 => intro z; rw [ih1 z, ih2 z]
theorem prodT_img {n : Nat} (h1 : 1 ≤ n) (h2 : n ≤ 16) {a : Nat} (ha : Nat.gcd a n = 1) : ∀ (ys : List (List Int)) (z : List Int), imN n (prodT n ys z) a = prodT n (ys.map fun y => imN n y a) (imN n z a)
  | [], z => rfl
  | y :: t, z => by
    show imN n (prodT n t (mulT n z y)) a = prodT n (t.map fun y => imN n y a) (mulT n (imN n z a) (imN n y a))
    rw [prodT_img h1 h2 ha t, imN_mul h1 h2 ha]
theorem prodT_both {n : Nat} (h1 : 1 ≤ n) (h2 : n ≤ 16) (f g : Nat → List Int) : ∀ (U : List Nat) (z w : List Int), prodT n (U.map fun a => mulT n (f a) (g a)) (mulT n z w) = mulT n (prodT n (U.map f) z) (prodT n (U.map g) w)
  | [], z, w => rfl
  | a :: U, z, w => by
    show prodT n (U.map fun a => mulT n (f a) (g a)) (mulT n (mulT n z w) (mulT n (f a) (g a))) = mulT n (prodT n (U.map f) (mulT n z (f a))) (prodT n (U.map g) (mulT n w (g a)))
    rw [mulT_four h1 h2, prodT_both h1 h2 f g U]
/-! ### The units -/
def unitsN (n : Nat) : List Nat := ((List.range n).map fun a => a + 1).filter fun a => Nat.gcd a n == 1
def turnN (n b a : Nat) : Nat := (a * b + n - 1) % n + 1
def unitsOk (n : Nat) : Bool := decide (unitsL (n : Int) = (unitsN n).map fun a : Nat => (a : Int)) && (decide ((unitsN n).length = cycD n) &&
  ((unitsN n).all fun b => ((unitsN n).map (turnN n b)).isPerm (unitsN n)) && (List.range n).all fun i => (List.range (cycD n)).all fun m => decide (m = 0) || decide (sumF 0 (cycD n) (fun q => cycW n m (i * (unitsN n).getD q 0)) = 0))
theorem units_all : ((List.range 16).all fun q => unitsOk (q + 1)) = true := by decide +kernel
theorem mem_unitsN {n a : Nat} : a ∈ unitsN n ↔ (1 ≤ a ∧ a ≤ n) ∧ Nat.gcd a n = 1 := by
  unfold unitsN
  rw [List.mem_filter, List.mem_map, beq_iff_eq]
  constructor
  · rintro ⟨⟨j, h, rfl⟩, h2⟩
    have := List.mem_range.1 h
    exact ⟨by omega, h2⟩
  · rintro ⟨h, h2⟩
    exact ⟨⟨a - 1, List.mem_range.2 (by omega), by omega⟩, h2⟩
structure UnitsFacts (n : Nat) : Prop where
  eqL : unitsL (n : Int) = (unitsN n).map fun a : Nat => (a : Int)
  len : (unitsN n).length = cycD n
  perm : ∀ b ∈ unitsN n, ((unitsN n).map (turnN n b)).Perm (unitsN n)
  none : ∀ i m, m ≠ 0 → m < cycD n → sumF 0 (cycD n) (fun q => cycW n m (i * (unitsN n).getD q 0)) = 0
theorem units_facts {n : Nat} (h1 : 1 ≤ n) (h2 : n ≤ 16) : UnitsFacts n := by
  have h := List.all_eq_true.1 units_all (n - 1) (List.mem_range.2 (by omega))
  have e : n - 1 + 1 = n := by omega
  rw [e] at h
  unfold unitsOk at h
  simp only [Bool.and_eq_true, decide_eq_true_eq, List.all_eq_true, List.mem_range, Bool.or_eq_true] at h
  obtain ⟨a, ⟨b, c⟩, d⟩ := h
  refine ⟨a, b, fun q hq => List.isPerm_iff.1 (c q hq), fun i m h0 hm => ?_⟩
  have g := (d (i % n) (Nat.mod_lt _ h1) m hm).resolve_left h0
  rw [← g]
  exact sumF_congr _ 0 fun q _ _ => by rw [cycW_mul]
theorem turnN_mod {n : Nat} (h1 : 1 ≤ n) (b a : Nat) : turnN n b a % n = a * b % n := by
  unfold turnN
  rw [Nat.mod_add_mod, show a * b + n - 1 + 1 = a * b + n by omega, Nat.add_mod_right]
/-- The product of all images, and the norm. -/
def nrmP (n : Nat) (x : List Int) : List Int := prodT n ((unitsN n).map (imN n x)) (ratT n 1)
def nrm (n : Nat) (x : List Int) : Int := rd (nrmP n x) (0 : Nat)
theorem nrmP_len (n : Nat) (x : List Int) : (nrmP n x).length = cycD n := prodT_len n _ _ (ratT_len n 1)
theorem images_turn {n : Nat} (h1 : 1 ≤ n) (h2 : n ≤ 16) (x : List Int) {b : Nat} (hb : b ∈ unitsN n) : ((unitsN n).map fun a => imN n x (a * b)).Perm ((unitsN n).map (imN n x)) := by
  have e : ((unitsN n).map fun a => imN n x (a * b)) = ((unitsN n).map (turnN n b)).map (imN n x) := by
    rw [List.map_map]
    exact List.map_congr_left fun a _ => imN_mod n x (turnN_mod h1 b a).symm
  rw [e]
  exact ((units_facts h1 h2).perm b hb).map _
theorem nrmP_inv {n : Nat} (h1 : 1 ≤ n) (h2 : n ≤ 16) (x : List Int) {b : Nat} (hb : b ∈ unitsN n) : imN n (nrmP n x) b = nrmP n x := by
  have gb := (mem_unitsN.1 hb).2
  unfold nrmP
  rw [prodT_img h1 h2 gb, imN_rat (cyc_facts h1 h2), List.map_map]
  have e : ((unitsN n).map ((fun y => imN n y b) ∘ imN n x)) = (unitsN n).map fun a => imN n x (a * b) := List.map_congr_left fun a _ => imN_imN h1 h2 a gb x
  rw [e, prodT_perm h1 h2 (images_turn h1 h2 x hb)]
theorem sumF_const (c : Int) : ∀ (d k : Nat), sumF k d (fun _ => c) = (d : Int) * c
  | 0, k => by unfold sumF; omega
  | d + 1, k => by
    show c + sumF (k + 1) d (fun _ => c) = _
    rw [sumF_const c d (k + 1), Int.natCast_add, Int.add_mul]
    omega
/-- What no image changes is a whole number. -/
theorem rational {n : Nat} (h1 : 1 ≤ n) (h2 : n ≤ 16) {P : List Int} (hl : P.length = cycD n) (h : ∀ b ∈ unitsN n, imN n P b = P) : P = ratT n (rd P (0 : Nat)) := by
  have U := units_facts h1 h2
  have C := cyc_facts h1 h2
  refine tab_ext hl fun m hm => ?_
  by_cases e : m = 0
  · rw [e, if_pos rfl]
  · rw [if_neg e]
    have s1 : sumF 0 (cycD n) (fun q => galN n P ((unitsN n).getD q 0) m) = (cycD n : Int) * rd P m := by
      rw [← sumF_const]
      refine sumF_congr _ 0 fun q _ hq => ?_
      have hq : q < (unitsN n).length := by rw [U.len]; omega
      have hm2 : (unitsN n).getD q 0 ∈ unitsN n := by rw [List.getD_eq_getElem?_getD, List.getElem?_eq_getElem hq, Option.getD_some]; exact List.getElem_mem hq
      have := tab_rd (cycD n) (galN n P ((unitsN n).getD q 0)) m hm
      rw [← this]
      exact congrArg (fun L => rd L m) (h _ hm2)
    have s2 : sumF 0 (cycD n) (fun q => galN n P ((unitsN n).getD q 0) m) = 0 := by
      unfold galN
      rw [sumF_swap, sumF_congr _ 0 (g := fun _ => (0 : Int)) (fun i _ _ => by rw [sumF_left, U.none i m e hm, Int.mul_zero]), sumF_zero]
    rw [s2] at s1
    have := C.pos
    rcases Int.mul_eq_zero.1 s1.symm with g | g
    · omega
    · exact g
theorem nrmP_rat {n : Nat} (h1 : 1 ≤ n) (h2 : n ≤ 16) (x : List Int) : nrmP n x = ratT n (nrm n x) := rational h1 h2 (nrmP_len n x) fun b hb => nrmP_inv h1 h2 x hb
theorem rat_zero {n : Nat} (C : CycFacts n) (c : Int) : rd (ratT n c) (0 : Nat) = c := by rw [ratT, tab_rd _ _ _ (by have := C.pos; omega), if_pos rfl]
/-- The norm of a product is the product of the norms. -/
theorem nrm_mul {n : Nat} (h1 : 1 ≤ n) (h2 : n ≤ 16) (x y : List Int) : nrm n (mulT n x y) = nrm n x * nrm n y := by
  have C := cyc_facts h1 h2
  have e : nrmP n (mulT n x y) = mulT n (nrmP n x) (nrmP n y) := by
    unfold nrmP
    rw [← prodT_both h1 h2, rat_rat C, Int.mul_one]
    congr 1
    exact List.map_congr_left fun a ha => imN_mul h1 h2 (mem_unitsN.1 ha).2 x y
  rw [nrmP_rat h1 h2 x, nrmP_rat h1 h2 y, rat_rat C] at e
  unfold nrm
  rw [e, rat_zero C]
  rfl
theorem nrm_img {n : Nat} (h1 : 1 ≤ n) (h2 : n ≤ 16) (x : List Int) {b : Nat} (hb : b ∈ unitsN n) : nrm n (imN n x b) = nrm n x := by
  unfold nrm nrmP
  have e : ((unitsN n).map (imN n (imN n x b))) = (unitsN n).map fun a => imN n x (a * b) := List.map_congr_left fun a ha => by rw [imN_imN h1 h2 b (mem_unitsN.1 ha).2, Nat.mul_comm]
  rw [e, prodT_perm h1 h2 (images_turn h1 h2 x hb)]
end Go.Proofs.Ytefdcoeidpbcjaa.F
/- Facts on norms: images, their products, norms, by the program. -/
namespace Go.Proofs.Ytefdcoeidpbcjaa.F
open Go.RowKit Go.Proofs.Ytefdcoeidpbcjaa.R
set_option linter.unusedVariables false
set_option linter.unusedSimpArgs false
def imgL (n : Nat) (x : List Int) : List (List Int) := (unitsL (n : Int)).map fun a => imT n x a
def norm2 (n : Int) (x : List Int) : Int × Int := if isC n x = true then (match runO n.toNat (imgL n.toNat x) (oneT n.toNat) with | some R => (rd R (0 : Nat), 0) | none => (0, 3)) else (0, 1)
theorem oneT_rat (n : Nat) : oneT n = ratT n 1 := rfl
theorem imgL_len {n : Nat} (h1 : 1 ≤ n) (h2 : n ≤ 16) (x : List Int) : (imgL n x).length = cycD n := by
  rw [imgL, List.length_map, (cyc_facts h1 h2).units]
theorem imgL_nat {n : Nat} (h1 : 1 ≤ n) (h2 : n ≤ 16) {x : List Int} (hx : GoodZ n x) : imgL n x = (unitsN n).map (imN n x) := by
  unfold imgL
  rw [(units_facts h1 h2).eqL, List.map_map]
  exact List.map_congr_left fun a _ => imT_nat h1 h2 hx a
theorem imgL_fair {n : Nat} (h1 : 1 ≤ n) (h2 : n ≤ 16) {x : List Int} (hx : GoodZ n x) : ∀ y ∈ imgL n x, FairZ n y := by
  intro y hy
  unfold imgL at hy
  obtain ⟨a, _, rfl⟩ := List.mem_map.1 hy
  exact imT_fair (cyc_facts h1 h2) h1 hx a
theorem norm2_zero {n : Int} {x : List Int} (h : (norm2 n x).2 = 0) : ∃ m : Nat, n = m ∧ 1 ≤ m ∧ m ≤ 16 ∧ GoodZ m x ∧ (norm2 n x).1 = nrm m x ∧ -1000000000 ≤ nrm m x ∧ nrm m x ≤ 1000000000 := by
  unfold norm2 at h ⊢
  split at h
  · rename_i c
    obtain ⟨m, rfl, h1, h2, h3, h4, h5⟩ := isC_x c
    rw [if_pos c]
    rw [Int.toNat_natCast] at h ⊢
    cases e : runO m (imgL m x) (oneT m) with
    | none => rw [e] at h; cases h
    | some R =>
      have g := runO_good _ _ _ (oneT_good m) e
      have hR := runO_prod _ _ _ e
      rw [imgL_nat h1 h2 h5, oneT_rat] at hR
      have hb := g.2 0 (by rw [g.1]; exact (cyc_facts h1 h2).pos)
      have e2 : rd R ((0 : Nat) : Int) = nrm m x := by rw [hR]; rfl
      rw [e2] at hb
      exact ⟨m, rfl, h1, h2, h5, e2, hb.1, hb.2⟩
  · cases h
theorem list_set0 {n : Nat} (h1 : 1 ≤ n) (h2 : n ≤ 16) : (List.replicate (cycD n) (0 : Int)).set 0 1 = oneT n := by
  have := (cyc_facts h1 h2).pos
  rw [tab_zero, tab_set, oneT]
  refine tab_congr fun m _ => ?_
  by_cases c : m = 0
  · rw [if_pos c.symm, if_pos c]
  · rw [if_neg (fun h => c h.symm), if_neg c]
theorem units_tab : ∀ n : Nat, 1 ≤ n → n ≤ 16 → ∀ (j : Nat) (A : Type) (z : A) (Φ : List Int → A), impl_unitsOf z (j + 100) (n : Int) Φ = Φ (unitsL (n : Int)) :=
  by16 (fun _ _ _ _ => by kernel_rfl) (fun _ _ _ _ => by kernel_rfl) (fun _ _ _ _ => by kernel_rfl) (fun _ _ _ _ => by kernel_rfl) (fun _ _ _ _ => by kernel_rfl) (fun _ _ _ _ => by kernel_rfl) (fun _ _ _ _ => by kernel_rfl) (fun _ _ _ _ => by kernel_rfl) (fun _ _ _ _ => by kernel_rfl) (fun _ _ _ _ => by kernel_rfl) (fun _ _ _ _ => by kernel_rfl) (fun _ _ _ _ => by kernel_rfl) (fun _ _ _ _ => by kernel_rfl) (fun _ _ _ _ => by kernel_rfl) (fun _ _ _ _ => by kernel_rfl) (fun _ _ _ _ => by kernel_rfl)
section
variable {A : Type} (z : A)
theorem unitsOf_eq {n : Nat} (h1 : 1 ≤ n) (h2 : n ≤ 16) (k : Nat) (hk : 100 ≤ k) (Φ : List Int → A) : impl_unitsOf z k (n : Int) Φ = Φ (unitsL (n : Int)) := by
  obtain ⟨j, rfl⟩ := le_ex hk
  exact units_tab n h1 h2 j A z Φ
theorem images_g4 {n : Nat} (h1 : 1 ≤ n) (h2 : n ≤ 16) {x : List Int} (hx : x.length ≤ 100) {U : List Int} (hU : ∀ a ∈ U, 1 ≤ a ∧ a ≤ 16) (hl : U.length ≤ 100) {K0 : List (List Int) → A} : ∀ (d i k : Nat) (acc : List (List Int)), i + d = U.length → acc.length = i → d + 140 ≤ k →
    impl_field_images.g4 z k (n : Int) (cycD n : Int) (cycP n) x (U.length : Int) (i : Int) acc U K0 = K0 (acc ++ (U.drop i).map fun a => imT n x a)
  | d, i, 0, acc, _, _, hk => absurd hk (by omega)
  | 0, i, k + 1, acc, hi, ha, hk => by
    rw [impl_field_images.g4, if_neg (by omega), List.drop_of_length_le (by omega), List.map_nil, List.append_nil]
  | d + 1, i, k + 1, acc, hi, ha, hk => by
    have hq : i < U.length := by omega
    have hm : U.getD i 0 ∈ U := by rw [getD_at hq]; exact List.getElem_mem _
    have hb := hU _ hm
    rw [impl_field_images.g4, if_pos (by omega), inI_at z hq, image_eq z h1 h2 hx (by omega) k (by omega), apI_ok z (by omega), w64_up (by omega), images_g4 h1 h2 hx hU hl d (i + 1) k _ (by omega) (by rw [List.length_append]; simp only [List.length_singleton]; omega) (by omega), drop_at U i (by omega), List.map_cons, List.append_assoc]
    rfl
theorem unitsL_bd {n : Nat} (h1 : 1 ≤ n) (h2 : n ≤ 16) : ∀ a ∈ unitsL (n : Int), 1 ≤ a ∧ a ≤ 16 := by
  intro a ha
  have := unit_range ha
  omega
theorem images_eq {n : Nat} (h1 : 1 ≤ n) (h2 : n ≤ 16) {x : List Int} (hx : x.length ≤ 100) (k : Nat) (hk : 300 ≤ k) (Φ : List (List Int) → A) : impl_field_images z k (n : Int) (cycD n : Int) (cycP n) x Φ = Φ (imgL n x) := by
  obtain ⟨k, rfl⟩ := le_ex (show 1 ≤ k by omega)
  have C := cyc_facts h1 h2
  have := C.units
  have := C.le12
  simp only [impl_field_images, step_succ]
  rw [unitsOf_eq z h1 h2 k (by omega)]
  exact images_g4 z h1 h2 hx (unitsL_bd h1 h2) (by omega) (unitsL (n : Int)).length 0 k [] (by omega) rfl (by omega)
theorem whole_eq {n : Nat} (h1 : 1 ≤ n) (h2 : n ≤ 16) (P : List (List Int)) (k : Nat) (hk : 1 ≤ k) (Φ : List Int → A) : impl_field_whole z k (n : Int) (cycD n : Int) P 1 Φ = Φ (oneT n) := by
  obtain ⟨k, rfl⟩ := le_ex hk
  have C := cyc_facts h1 h2
  have := C.pos
  have := C.le12
  simp only [impl_field_whole, step_succ]
  rw [mkI_at z (by omega), inI_0 z (by rw [List.length_replicate]; omega), list_set0 h1 h2]
theorem getD_rows {ys : List (List Int)} {i : Nat} (h : i < ys.length) : ys.getD i [] = ys[i] := by
  rw [List.getD_eq_getElem?_getD, List.getElem?_eq_getElem h, Option.getD_some]
theorem drop_rows {ys : List (List Int)} {i : Nat} (h : i < ys.length) : ys.drop i = ys.getD i [] :: ys.drop (i + 1) := by
  rw [getD_rows h, List.drop_eq_getElem_cons h]
theorem all_g4 {n : Nat} (h1 : 1 ≤ n) (h2 : n ≤ 16) {ys : List (List Int)} (hy : ∀ y ∈ ys, FairZ n y) (hl : ys.length ≤ 1000) {K0 : Bool → List Int → A} {K1 : List Int → A} : ∀ (d i k : Nat) (w : List Int), i + d = ys.length → GoodZ n w → d + 270 ≤ k →
    impl_field_all.g4 z k (n : Int) (cycD n : Int) (cycP n) ys (ys.length : Int) (i : Int) w K0 K1 = match runO n (ys.drop i) w with | some R => K1 R | none => K0 false []
  | d, i, 0, w, _, _, hk => absurd hk (by omega)
  | 0, i, k + 1, w, hi, hw, hk => by
    rw [impl_field_all.g4, if_neg (by omega), List.drop_of_length_le (by omega)]
    rfl
  | d + 1, i, k + 1, w, hi, hw, hk => by
    have hq : i < ys.length := by omega
    have hm : ys.getD i [] ∈ ys := by rw [getD_rows hq]; exact List.getElem_mem _
    obtain ⟨f1, f2⟩ := hy _ hm
    have C := cyc_facts h1 h2
    have := C.le12
    rw [impl_field_all.g4, if_pos (by omega), inI_at z hq, times_eq h1 h2 hw.2 (by rw [hw.1]; omega) f2 (by omega) z k (by omega), drop_rows hq]
    unfold runO mulO
    by_cases ho : okB n w (ys.getD i []) = true
    · have hb := smallL_tab.1 ho
      have e : (tab (cycD n) fun m => w64 (bil n w (ys.getD i []) m)) = tab (cycD n) (bil n w (ys.getD i [])) := tab_congr fun m hm => by have := hb m hm; exact w64_id (by omega) (by omega)
      rw [ho, Bool.not_true, cond_false, e, w64_up (by omega), if_pos rfl, all_g4 h1 h2 hy hl d (i + 1) k _ (by omega) ⟨tab_length _ _, smallL_within.1 ho⟩ (by omega)]
      rfl
    · rw [if_neg ho, show okB n w (ys.getD i []) = false by simpa using ho]
      rfl
theorem allOf_eq {n : Nat} (h1 : 1 ≤ n) (h2 : n ≤ 16) {ys : List (List Int)} (hy : ∀ y ∈ ys, FairZ n y) (hl : ys.length ≤ 1000) (k : Nat) (hk : 1300 ≤ k) (Φ : List Int → Bool → A) :
    impl_field_all z k (n : Int) (cycD n : Int) (cycP n) ys Φ = match runO n ys (oneT n) with | some R => Φ R true | none => Φ [] false := by
  obtain ⟨k, rfl⟩ := le_ex (show 1 ≤ k by omega)
  simp only [impl_field_all, step_succ]
  rw [whole_eq z h1 h2 _ k (by omega)]
  exact all_g4 z h1 h2 hy hl ys.length 0 k (oneT n) (by omega) (oneT_good n) (by omega)
theorem norm_eq {n : Nat} (h1 : 1 ≤ n) (h2 : n ≤ 16) {x : List Int} (hx : GoodZ n x) (k : Nat) (hk : 1400 ≤ k) (Φ : Int → Bool → A) :
    impl_field_norm z k (n : Int) (cycD n : Int) (cycP n) x Φ = match runO n (imgL n x) (oneT n) with | some R => Φ (rd R (0 : Nat)) true | none => Φ 0 false := by
  obtain ⟨k, rfl⟩ := le_ex (show 1 ≤ k by omega)
  have C := cyc_facts h1 h2
  have := C.le12
  have := C.pos
  simp only [impl_field_norm, step_succ]
  rw [images_eq z h1 h2 (by rw [hx.1]; omega) k (by omega), allOf_eq z h1 h2 (imgL_fair h1 h2 hx) (by rw [imgL_len h1 h2]; omega) k (by omega)]
  cases e : runO n (imgL n x) (oneT n) with
  | none => rfl
  | some R =>
    have g := runO_good _ _ _ (oneT_good n) e
    dsimp only
    rw [Bool.not_true, cond_false, inI_0 z (by rw [g.1]; omega)]
    rfl
theorem normOf_eq (n : Int) {x : List Int} (hx : x.length ≤ 1000000) (k : Nat) (hk : x.length + 1500 ≤ k) (Φ : Int → Int → A) : impl_NormOf z k n x Φ = Φ (norm2 n x).1 (norm2 n x).2 := by
  obtain ⟨k, rfl⟩ := le_ex (show 1 ≤ k by omega)
  simp only [impl_NormOf, step_succ]
  rw [isCyclo_eq z n hx k (by omega)]
  unfold norm2
  cases h : isC n x with
  | false => rfl
  | true =>
    obtain ⟨m, rfl, h1, h2, h3, h4, h5⟩ := isC_x h
    rw [Bool.not_true, cond_false, if_pos rfl, field_eq z h1 h2 k (by omega), norm_eq z h1 h2 h5 k (by omega), Int.toNat_natCast]
    cases runO m (imgL m x) (oneT m) <;> rfl
end
end Go.Proofs.Ytefdcoeidpbcjaa.F
/- Facts on the functions of places: values of polynomials at a root, powers. -/
namespace Go.Proofs.Ytefdcoeidpbcjaa.F
open Go.RowKit Go.Proofs.Ytefdcoeidpbcjaa.R
set_option linter.unusedVariables false
set_option linter.unusedSimpArgs false
/-- The value at r, modulo p. -/
def horn (p r : Nat) : List Int → Int
  | [] => 0
  | a :: t => (horn p r t * r + a.tmod p) % p
theorem horn_bd {p : Nat} (h1 : 1 ≤ p) (r : Nat) : ∀ x : List Int, 0 ≤ horn p r x ∧ horn p r x < p
  | [] => by unfold horn; omega
  | a :: t => by
    unfold horn
    exact ⟨Int.emod_nonneg _ (by omega), Int.emod_lt_of_pos _ (by omega)⟩
theorem horn_step {p r : Nat} (h1 : 1 ≤ p) (h2 : p ≤ 1000) (hr : r ≤ 1000) (x : List Int) (a : Int) : (0 ≤ horn p r x * r ∧ horn p r x * r ≤ 1000000) ∧ -1000 < a.tmod p ∧ a.tmod p < 1000 := by
  obtain ⟨b1, b2⟩ := horn_bd h1 r x
  have t := tmod_lt (a := a) (n := (p : Int)) (by omega)
  refine ⟨?_, by omega, by omega⟩
  have := mul_bd (i := 100) (a := 0) (by omega) (by omega)
  obtain ⟨m, hm⟩ : ∃ m : Nat, horn p r x = m := ⟨(horn p r x).toNat, by omega⟩
  rw [hm, ← Int.natCast_mul]
  have := Nat.mul_le_mul (show m ≤ 1000 by omega) hr
  omega
section
variable {A : Type} (z : A)
end
end Go.Proofs.Ytefdcoeidpbcjaa.F
/- Facts on the functions of places: powers. -/
namespace Go.Proofs.Ytefdcoeidpbcjaa.F
open Go.RowKit Go.Proofs.Ytefdcoeidpbcjaa.R
set_option linter.unusedVariables false
set_option linter.unusedSimpArgs false
theorem tmodN (m n : Nat) : Int.tmod (m : Int) (n : Int) = ((m % n : Nat) : Int) := by rw [Int.tmod_eq_emod_of_nonneg (by omega)]; rfl
theorem tdivN (m n : Nat) : Int.tdiv (m : Int) (n : Int) = ((m / n : Nat) : Int) := by rw [Int.tdiv_eq_ediv_of_nonneg (by omega)]; rfl
theorem pow_odd {p b c e : Nat} (h : e % 2 = 1) : (c * b % p) * (b * b % p) ^ (e / 2) % p = c * b ^ e % p := by
  have he : e = 2 * (e / 2) + 1 := by omega
  rw [Nat.mul_mod, Nat.mod_mod, ← Nat.pow_mod, ← Nat.mul_mod]
  congr 1
  rw [← Nat.pow_two, ← Nat.pow_mul, Nat.mul_assoc, Nat.mul_comm b, ← Nat.pow_succ]
  rw [show (2 * (e / 2)).succ = e by omega]
theorem pow_even {p b c e : Nat} (h : ¬ e % 2 = 1) : c * (b * b % p) ^ (e / 2) % p = c * b ^ e % p := by
  have he : e = 2 * (e / 2) := by omega
  rw [Nat.mul_mod, ← Nat.pow_mod, ← Nat.mul_mod]
  congr 1
  rw [← Nat.pow_two, ← Nat.pow_mul, ← he]
section
variable {A : Type} (z : A)
theorem power_g {p : Nat} (h1 : 1 ≤ p) (h2 : p ≤ 1000) {K0 : Int → A} : ∀ (k e b c : Nat), e ≤ 1000000 → e + 1 ≤ k → b < p → c < p →
    impl_power.g4 z k (b : Int) (e : Int) (p : Int) (c : Int) K0 = K0 ((c * b ^ e % p : Nat) : Int)
  | 0, e, b, c, _, hk, _, _ => absurd hk (by omega)
  | k + 1, e, b, c, he, hk, hb, hc => by
    rw [impl_power.g4]
    by_cases h0 : 0 < e
    · have bb : b * b ≤ 1000 * 1000 := Nat.mul_le_mul (by omega) (by omega)
      have cb : c * b ≤ 1000 * 1000 := Nat.mul_le_mul (by omega) (by omega)
      rw [if_pos (by omega), show (2 : Int) = ((2 : Nat) : Int) from rfl, tmodN, tdivN, ← Int.natCast_mul, ← Int.natCast_mul, w64_id (x := ((b * b : Nat) : Int)) (by omega) (by omega), w64_id (x := ((c * b : Nat) : Int)) (by omega) (by omega), w64_id (x := ((e / 2 : Nat) : Int)) (by omega) (by omega), tmodN, tmodN]
      by_cases h : e % 2 = 1
      · rw [if_pos (by omega), gd_ok z (by omega), gd_ok z (by omega), power_g h1 h2 k (e / 2) _ _ (by omega) (by omega) (Nat.mod_lt _ h1) (Nat.mod_lt _ h1), pow_odd h]
      · rw [if_neg (by omega), gd_ok z (by omega), power_g h1 h2 k (e / 2) _ _ (by omega) (by omega) (Nat.mod_lt _ h1) hc, pow_even h]
    · have : e = 0 := by omega
      subst this
      rw [if_neg (by omega), Nat.pow_zero, Nat.mul_one, Nat.mod_eq_of_lt hc]
theorem power_eq {p : Nat} (h1 : 1 ≤ p) (h2 : p ≤ 1000) (b e : Nat) (he : e ≤ 1000000) (k : Nat) (hk : e + 3 ≤ k) (Φ : Int → A) : impl_power z k (b : Int) (e : Int) (p : Int) Φ = Φ ((b ^ e % p : Nat) : Int) := by
  obtain ⟨k, rfl⟩ := le_ex (show 2 ≤ k by omega)
  simp only [impl_power, step_succ]
  rw [gd_ok z (by omega), around_eq z _ (by omega) (by omega), ← Int.natCast_emod, show (1 : Int) = ((1 : Nat) : Int) from rfl, tmodN, power_g z h1 h2 _ e _ _ he (by omega) (Nat.mod_lt _ h1) (Nat.mod_lt _ h1)]
  congr 2
  rw [Nat.mul_mod, Nat.mod_mod, ← Nat.pow_mod, ← Nat.mul_mod, Nat.one_mul]
end
end Go.Proofs.Ytefdcoeidpbcjaa.F
/- Facts on the functions of places: primes, roots. -/
namespace Go.Proofs.Ytefdcoeidpbcjaa.F
open Go.RowKit Go.Proofs.Ytefdcoeidpbcjaa.R
set_option linter.unusedVariables false
set_option linter.unusedSimpArgs false
def noDiv (p : Nat) : Nat → Nat → Bool
  | 0, _ => true
  | d + 1, q => if q * q ≤ p then (if p % q = 0 then false else noDiv p d (q + 1)) else true
def isP (p : Nat) : Bool := decide (3 ≤ p ∧ p ≤ 61) && noDiv p p 2
def rootsFrom (F : List Int) (p : Nat) : Nat → Nat → List Int
  | 0, _ => []
  | d + 1, r => if horn p r F = 0 then (r : Int) :: rootsFrom F p d (r + 1) else rootsFrom F p d (r + 1)
theorem rootsFrom_length (F : List Int) (p : Nat) : ∀ d r, (rootsFrom F p d r).length ≤ d
  | 0, r => Nat.le_refl _
  | d + 1, r => by
    have := rootsFrom_length F p d (r + 1)
    unfold rootsFrom
    split
    · rw [List.length_cons]; omega
    · omega
section
variable {A : Type} (z : A)
theorem isPrime_g {p : Nat} (hp : p ≤ 1000) {K0 : Bool → A} {K1 : A} : ∀ (d q k : Nat), q + d = p + 2 → 2 ≤ q → d + 1 ≤ k →
    impl_isPrime.g3 z k (p : Int) (q : Int) K0 K1 = bif noDiv p d q then K1 else K0 false
  | d, q, 0, _, _, hk => absurd hk (by omega)
  | 0, q, k + 1, hq, h2, hk => by
    have hq2 : 2 * q ≤ q * q := Nat.mul_le_mul_right q h2
    have hq3 : q * q ≤ 1002 * 1002 := Nat.mul_le_mul (by omega) (by omega)
    rw [impl_isPrime.g3, ← Int.natCast_mul, w64_id (by omega) (by omega), if_neg (by omega)]
    rfl
  | d + 1, q, k + 1, hq, h2, hk => by
    have hq3 : q * q ≤ 1002 * 1002 := Nat.mul_le_mul (by omega) (by omega)
    rw [impl_isPrime.g3, ← Int.natCast_mul, w64_id (by omega) (by omega), noDiv]
    by_cases c : q * q ≤ p
    · rw [if_pos (by omega), if_pos c, gd_ok z (by omega), tmodN]
      by_cases e : p % q = 0
      · rw [if_pos (by omega), if_pos e]; rfl
      · rw [if_neg (by omega), if_neg e, w64_up (by omega), isPrime_g hp d (q + 1) k (by omega) (by omega) (by omega)]
    · rw [if_neg (by omega), if_neg c]; rfl
theorem isPrime_eq {p : Nat} (hp : p ≤ 1000) (k : Nat) (hk : p + 5 ≤ k) (Φ : Bool → A) : impl_isPrime z k (p : Int) Φ = Φ (isP p) := by
  obtain ⟨k, rfl⟩ := le_ex (show 2 ≤ k by omega)
  simp only [impl_isPrime, step_succ]
  have h := isPrime_g z hp (K0 := Φ) (K1 := impl_within z (k + 1) (p : Int) 3 61 Φ) p 2 (k + 1) (by omega) (by omega) (by omega)
  refine Eq.trans h ?_
  rw [within_eq]
  unfold isP
  rw [show decide ((3 : Int) ≤ (p : Int) ∧ (p : Int) ≤ 61) = decide (3 ≤ p ∧ p ≤ 61) by
    by_cases c : 3 ≤ p ∧ p ≤ 61
    · rw [decide_eq_true c, decide_eq_true (by omega)]
    · rw [decide_eq_false c, decide_eq_false (by omega)]]
  cases noDiv p p 2 <;> simp
end
end Go.Proofs.Ytefdcoeidpbcjaa.F
/- Facts on Bernoulli numbers: tables; residues, plain. -/
namespace Go.Proofs.Ytefdcoeidpbcjaa.F
open Go.RowKit Go.Proofs.Ytefdcoeidpbcjaa.R
set_option linter.unusedVariables false
set_option linter.unusedSimpArgs false
theorem by21 {P : Nat → Prop} (h0 : P 0) (h1 : P 1) (h2 : P 2) (h3 : P 3) (h4 : P 4) (h5 : P 5) (h6 : P 6) (h7 : P 7) (h8 : P 8) (h9 : P 9) (h10 : P 10) (h11 : P 11) (h12 : P 12) (h13 : P 13) (h14 : P 14) (h15 : P 15) (h16 : P 16) (h17 : P 17) (h18 : P 18) (h19 : P 19) (h20 : P 20) : ∀ n : Nat, n ≤ 20 → P n := by
  intro n h
  have : n = 0 ∨ n = 1 ∨ n = 2 ∨ n = 3 ∨ n = 4 ∨ n = 5 ∨ n = 6 ∨ n = 7 ∨ n = 8 ∨ n = 9 ∨ n = 10 ∨ n = 11 ∨ n = 12 ∨ n = 13 ∨ n = 14 ∨ n = 15 ∨ n = 16 ∨ n = 17 ∨ n = 18 ∨ n = 19 ∨ n = 20 := by omega
  rcases this with rfl | rfl | rfl | rfl | rfl | rfl | rfl | rfl | rfl | rfl | rfl | rfl | rfl | rfl | rfl | rfl | rfl | rfl | rfl | rfl | rfl <;> assumption
def bernT : List (Int × Int) := [(1, 1), (-1, 2), (1, 6), (0, 1), (-1, 30), (0, 1), (1, 42), (0, 1), (-1, 30), (0, 1), (5, 66), (0, 1), (-691, 2730), (0, 1), (7, 6), (0, 1), (-3617, 510), (0, 1), (43867, 798), (0, 1), (-174611, 330)]
theorem bernI_tab : ∀ n : Nat, n ≤ 20 → ∀ (j : Nat) (A : Type) (z : A) (Φ : Int → Int → Int → A), impl_BernoulliOf z (j + 200) (n : Int) Φ = Φ (bernT.getD n (0, 0)).1 (bernT.getD n (0, 0)).2 0 :=
  by21 (fun _ _ _ _ => by kernel_rfl) (fun _ _ _ _ => by kernel_rfl) (fun _ _ _ _ => by kernel_rfl) (fun _ _ _ _ => by kernel_rfl) (fun _ _ _ _ => by kernel_rfl) (fun _ _ _ _ => by kernel_rfl) (fun _ _ _ _ => by kernel_rfl) (fun _ _ _ _ => by kernel_rfl) (fun _ _ _ _ => by kernel_rfl) (fun _ _ _ _ => by kernel_rfl) (fun _ _ _ _ => by kernel_rfl) (fun _ _ _ _ => by kernel_rfl) (fun _ _ _ _ => by kernel_rfl) (fun _ _ _ _ => by kernel_rfl) (fun _ _ _ _ => by kernel_rfl) (fun _ _ _ _ => by kernel_rfl) (fun _ _ _ _ => by kernel_rfl) (fun _ _ _ _ => by kernel_rfl) (fun _ _ _ _ => by kernel_rfl) (fun _ _ _ _ => by kernel_rfl) (fun _ _ _ _ => by kernel_rfl)
theorem bernS_tab : ∀ n : Nat, n ≤ 20 → ∀ (j : Nat) (A : Type) (z : A) (Φ : Int → Int → Int → A), spec_BernoulliOf z (j + 200) (n : Int) Φ = Φ (bernT.getD n (0, 0)).1 (bernT.getD n (0, 0)).2 0 :=
  by21 (fun _ _ _ _ => by kernel_rfl) (fun _ _ _ _ => by kernel_rfl) (fun _ _ _ _ => by kernel_rfl) (fun _ _ _ _ => by kernel_rfl) (fun _ _ _ _ => by kernel_rfl) (fun _ _ _ _ => by kernel_rfl) (fun _ _ _ _ => by kernel_rfl) (fun _ _ _ _ => by kernel_rfl) (fun _ _ _ _ => by kernel_rfl) (fun _ _ _ _ => by kernel_rfl) (fun _ _ _ _ => by kernel_rfl) (fun _ _ _ _ => by kernel_rfl) (fun _ _ _ _ => by kernel_rfl) (fun _ _ _ _ => by kernel_rfl) (fun _ _ _ _ => by kernel_rfl) (fun _ _ _ _ => by kernel_rfl) (fun _ _ _ _ => by kernel_rfl) (fun _ _ _ _ => by kernel_rfl) (fun _ _ _ _ => by kernel_rfl) (fun _ _ _ _ => by kernel_rfl) (fun _ _ _ _ => by kernel_rfl)
def bern3 (n : Int) : Int × Int × Int := if 0 ≤ n ∧ n ≤ 20 then ((bernT.getD n.toNat (0, 0)).1, (bernT.getD n.toNat (0, 0)).2, 0) else (0, 0, 2)
section
variable {A : Type} (z : A)
theorem bernI_eq (n : Int) (k : Nat) (hk : 200 ≤ k) (Φ : Int → Int → Int → A) : impl_BernoulliOf z k n Φ = Φ (bern3 n).1 (bern3 n).2.1 (bern3 n).2.2 := by
  unfold bern3
  by_cases c : 0 ≤ n ∧ n ≤ 20
  · obtain ⟨n, rfl⟩ : ∃ j : Nat, n = j := ⟨n.toNat, by omega⟩
    obtain ⟨j, rfl⟩ := le_ex hk
    rw [if_pos c, Int.toNat_natCast]
    exact bernI_tab n (by omega) j A z Φ
  · obtain ⟨k, rfl⟩ := le_ex (show 2 ≤ k by omega)
    simp only [impl_BernoulliOf, step_succ]
    rw [within_eq, decide_eq_false c, if_neg c]
    rfl
theorem bernS_eq (n : Int) (k : Nat) (hk : 200 ≤ k) (Φ : Int → Int → Int → A) : spec_BernoulliOf z k n Φ = Φ (bern3 n).1 (bern3 n).2.1 (bern3 n).2.2 := by
  unfold bern3
  by_cases c : 0 ≤ n ∧ n ≤ 20
  · obtain ⟨n, rfl⟩ : ∃ j : Nat, n = j := ⟨n.toNat, by omega⟩
    obtain ⟨j, rfl⟩ := le_ex hk
    rw [if_pos c, Int.toNat_natCast]
    exact bernS_tab n (by omega) j A z Φ
  · obtain ⟨k, rfl⟩ := le_ex (show 2 ≤ k by omega)
    simp only [spec_BernoulliOf, step_succ]
    rw [in_eq, decide_eq_false c, if_neg c]
    rfl
end
/-! ### Binomials and residues -/
def ch : Nat → Nat → Nat
  | _, 0 => 1
  | 0, _ + 1 => 0
  | n + 1, k + 1 => ch n k + ch n (k + 1)
theorem ch_zero (n : Nat) : ch n 0 = 1 := by cases n <;> rfl
theorem ch_gt : ∀ n k : Nat, n < k → ch n k = 0
  | n, 0, h => absurd h (by omega)
  | 0, k + 1, _ => rfl
  | n + 1, k + 1, h => by rw [ch, ch_gt n k (by omega), ch_gt n (k + 1) (by omega)]
theorem ch_self : ∀ n : Nat, ch n n = 1
  | 0 => rfl
  | n + 1 => by rw [ch, ch_self n, ch_gt n (n + 1) (by omega)]
theorem ch_mul : ∀ n k : Nat, k ≤ n → ch n (k + 1) * (k + 1) = ch n k * (n - k)
  | 0, k, h => by
    have : k = 0 := by omega
    subst this
    rfl
  | n + 1, 0, h => by
    have ih := ch_mul n 0 (by omega)
    rw [ch_zero] at ih
    have e : ch (n + 1) (0 + 1) = ch n 0 + ch n (0 + 1) := rfl
    rw [e, ch_zero, ch_zero]
    omega
  | n + 1, k + 1, h => by
    have i1 := ch_mul n k (by omega)
    have e1 : ch (n + 1) (k + 2) * (k + 2) = ch n (k + 1) * (k + 2) + ch n (k + 2) * (k + 2) := by rw [show ch (n + 1) (k + 2) = ch n (k + 1) + ch n (k + 2) from rfl, Nat.add_mul]
    have e2 : ch (n + 1) (k + 1) * (n + 1 - (k + 1)) = ch n k * (n - k) + ch n (k + 1) * (n - k) := by rw [show ch (n + 1) (k + 1) = ch n k + ch n (k + 1) from rfl, Nat.add_mul, show n + 1 - (k + 1) = n - k by omega]
    rw [e1, e2, ← i1]
    by_cases c : k + 1 ≤ n
    · have i2 := ch_mul n (k + 1) c
      rw [i2, ← Nat.mul_add, ← Nat.mul_add]
      congr 1
      omega
    · have : n = k := by omega
      subst this
      rw [ch_gt n (n + 1) (by omega), ch_gt n (n + 2) (by omega)]
      omega
/-- The next row of binomials modulo p. -/
def stepRow (p : Nat) (r : List Int) : List Int := (1 :: (List.range (r.length - 1)).map fun j : Nat => (rd r j + rd r (j + 1 : Nat)) % p) ++ [1]
def rowP (p : Nat) : Nat → List Int
  | 0 => [1, 1]
  | d + 1 => stepRow p (rowP p d)
def nextB (p : Nat) (L r : List Int) : Int := ((-(sumF 0 L.length fun j => rd r j * rd L j)) % p) * (((L.length + 1) ^ (p - 2) % p : Nat) : Int) % p
def bernL (p : Nat) : Nat → List Int
  | 0 => [1]
  | d + 1 => bernL p d ++ [nextB p (bernL p d) (rowP p (d + 1))]
theorem stepRow_len (p : Nat) {r : List Int} (h : 1 ≤ r.length) : (stepRow p r).length = r.length + 1 := by
  unfold stepRow
  simp
  omega
theorem rowP_len (p : Nat) : ∀ d, (rowP p d).length = d + 2
  | 0 => rfl
  | d + 1 => by
    rw [rowP, stepRow_len p (by rw [rowP_len p d]; omega), rowP_len p d]
theorem bernL_len (p : Nat) : ∀ d, (bernL p d).length = d + 1
  | 0 => rfl
  | d + 1 => by rw [bernL, List.length_append, bernL_len p d]; rfl
theorem rd_app (a b : List Int) {i : Nat} (h : i < a.length) : rd (a ++ b) (i : Nat) = rd a i := by
  unfold rd
  rw [Int.toNat_natCast, List.getD_eq_getElem?_getD, List.getElem?_append_left h, ← List.getD_eq_getElem?_getD]
theorem rd_end (a : List Int) (v : Int) : rd (a ++ [v]) (a.length : Nat) = v := by
  unfold rd
  rw [Int.toNat_natCast, List.getD_eq_getElem?_getD, List.getElem?_append_right (Nat.le_refl _), Nat.sub_self]
  rfl
theorem rd_tail (a : Int) (t : List Int) (i : Nat) : rd (a :: t) ((i + 1 : Nat) : Int) = rd t i := by
  unfold rd
  rw [Int.toNat_natCast, Int.toNat_natCast]
  rfl
theorem stepRow_at (p : Nat) (r : List Int) {j : Nat} (h : j + 1 < r.length) : rd (stepRow p r) (j + 1 : Nat) = (rd r j + rd r (j + 1 : Nat)) % p := by
  unfold stepRow
  rw [rd_app _ _ (by simp; omega), rd_tail, rd_nat _ _ (by simp; omega), List.getElem_map, List.getElem_range]
theorem stepRow_first (p : Nat) (r : List Int) : rd (stepRow p r) (0 : Nat) = 1 := rfl
theorem stepRow_last (p : Nat) {r : List Int} (h : 1 ≤ r.length) : rd (stepRow p r) (r.length : Nat) = 1 := by
  have hl : (1 :: (List.range (r.length - 1)).map fun j : Nat => (rd r j + rd r (j + 1 : Nat)) % p).length = r.length := by simp; omega
  have := rd_end (1 :: (List.range (r.length - 1)).map fun j : Nat => (rd r j + rd r (j + 1 : Nat)) % p) 1
  rw [hl] at this
  exact this
theorem rowP_ch {p : Nat} (hp : 2 ≤ p) : ∀ d j : Nat, j ≤ d + 1 → rd (rowP p d) j = ((ch (d + 1) j % p : Nat) : Int)
  | 0, j, h => by
    have : j = 0 ∨ j = 1 := by omega
    rcases this with rfl | rfl
    · rw [ch_zero, Nat.mod_eq_of_lt (by omega)]; rfl
    · rw [show ch (0 + 1) 1 = 1 from rfl, Nat.mod_eq_of_lt (by omega)]; rfl
  | d + 1, 0, h => by
    rw [rowP, stepRow_first, ch_zero, Nat.mod_eq_of_lt (by omega)]; rfl
  | d + 1, j + 1, h => by
    have hl := rowP_len p d
    by_cases c : j + 1 ≤ d + 1
    · rw [rowP, stepRow_at p _ (by omega), rowP_ch hp d j (by omega), rowP_ch hp d (j + 1) c, ← Int.natCast_add, ← Int.natCast_emod, ← Nat.add_mod]
      rfl
    · have e : j + 1 = (rowP p d).length := by omega
      rw [rowP, e, stepRow_last p (by omega), ← e, show j + 1 = d + 1 + 1 by omega, ch_self, Nat.mod_eq_of_lt (by omega)]
      rfl
theorem bernL_pre (p : Nat) {i d : Nat} (h : i ≤ d) : ∀ e, rd (bernL p (d + e)) i = rd (bernL p d) i
  | 0 => rfl
  | e + 1 => by
    have hl := bernL_len p (d + e)
    rw [← bernL_pre p h e]
    exact rd_app (bernL p (d + e)) _ (by omega)
end Go.Proofs.Ytefdcoeidpbcjaa.F
/- Facts on Bernoulli numbers modulo primes, by both sides. -/
namespace Go.Proofs.Ytefdcoeidpbcjaa.F
open Go.RowKit Go.Proofs.Ytefdcoeidpbcjaa.R
set_option linter.unusedVariables false
set_option linter.unusedSimpArgs false
theorem emod_bd (a : Int) {p : Nat} (hp : 1 ≤ p) : 0 ≤ a % p ∧ a % p < p := ⟨Int.emod_nonneg _ (by omega), Int.emod_lt_of_pos _ (by omega)⟩
theorem bernL_bd {p : Nat} (hp : 2 ≤ p) : ∀ d i : Nat, i ≤ d → 0 ≤ rd (bernL p d) i ∧ rd (bernL p d) i < p
  | 0, i, h => by
    have : i = 0 := by omega
    subst this
    show 0 ≤ (1 : Int) ∧ (1 : Int) < p
    omega
  | d + 1, i, h => by
    by_cases c : i ≤ d
    · rw [bernL_pre p c 1]; exact bernL_bd hp d i c
    · have e : i = d + 1 := by omega
      have hl := bernL_len p d
      have h2 := rd_end (bernL p d) (nextB p (bernL p d) (rowP p (d + 1)))
      rw [hl] at h2
      subst e
      rw [show bernL p (d + 1) = bernL p d ++ [nextB p (bernL p d) (rowP p (d + 1))] from rfl, h2]
      exact emod_bd _ (by omega)
theorem rowP_bd {p : Nat} (hp : 2 ≤ p) (d j : Nat) (h : j ≤ d + 1) : 0 ≤ rd (rowP p d) j ∧ rd (rowP p d) j < p := by
  rw [rowP_ch hp d j h]
  have := Nat.mod_lt (ch (d + 1) j) (show 0 < p by omega)
  omega
theorem inv_all7 : ((List.range 62).all fun p => !isP p || (List.range p).all fun v => decide (v = 0) || decide (v * (v ^ (p - 2) % p) % p = 1)) = true := by decide +kernel
theorem inv_p {p v : Nat} (hp : isP p = true) (v1 : 1 ≤ v) (v2 : v < p) : v * (v ^ (p - 2) % p) % p = 1 := by
  have hb : 3 ≤ p ∧ p ≤ 61 := by
    unfold isP at hp
    rw [Bool.and_eq_true, decide_eq_true_eq] at hp
    exact hp.1
  have h := List.all_eq_true.1 inv_all7 p (List.mem_range.2 (by omega))
  rw [hp] at h
  simp only [Bool.not_true, Bool.false_or, List.all_eq_true, List.mem_range, Bool.or_eq_true, decide_eq_true_eq] at h
  exact (h v v2).resolve_left (by omega)
theorem choose_step {p n j : Nat} (hp : isP p = true) (h1 : j ≤ n) (h2 : j + 1 < p) : (ch n j % p * ((n - j) % p) % p) * ((j + 1) ^ (p - 2) % p) % p = ch n (j + 1) % p := by
  have hi := inv_p hp (v := j + 1) (by omega) h2
  have e : ch n j % p * ((n - j) % p) % p = ch n (j + 1) * (j + 1) % p := by rw [← Nat.mul_mod, ch_mul n j h1]
  rw [e, Nat.mod_mul_mod, Nat.mul_assoc, Nat.mul_mod, hi, Nat.mul_one, Nat.mod_mod]
theorem neg_mod (S : Int) {p : Nat} (hp : 1 ≤ p) : ((p : Int) - S % p) % p = (-S) % p := by
  have h := Int.emod_add_mul_ediv S p
  have e : (p : Int) - S % p = -S + p * (S / p + 1) := by rw [Int.mul_add]; omega
  rw [e, Int.add_mul_emod_self_left]
section
variable {A : Type} (z : A)
theorem power08_g {p : Nat} (h1 : 1 ≤ p) (h2 : p ≤ 1000) {b : Nat} (hb : b ≤ 1000) {K0 : Int → A} : ∀ (e c k : Nat), e ≤ 1000000 → e + 1 ≤ k → c < p →
    spec_l08Power.g3 z k (p : Int) (b : Int) (e : Int) (c : Int) K0 = K0 ((c * b ^ e % p : Nat) : Int)
  | e, c, 0, _, hk, _ => absurd hk (by omega)
  | 0, c, k + 1, he, hk, hc => by
    rw [spec_l08Power.g3, if_neg (by omega), Nat.pow_zero, Nat.mul_one, Nat.mod_eq_of_lt hc]
  | e + 1, c, k + 1, he, hk, hc => by
    have cb : c * b ≤ 1000 * 1000 := Nat.mul_le_mul (by omega) (by omega)
    rw [spec_l08Power.g3, if_pos (by omega), gd_ok z (by omega), ← Int.natCast_mul, w64_id (x := ((c * b : Nat) : Int)) (by omega) (by omega), tmodN, show w64 (((e + 1 : Nat) : Int) - 1) = (e : Int) by rw [w64_id (by omega) (by omega)]; omega, power08_g h1 h2 hb e _ k (by omega) (by omega) (Nat.mod_lt _ h1)]
    congr 2
    rw [Nat.mul_mod, Nat.mod_mod, ← Nat.mul_mod, Nat.mul_assoc, Nat.mul_comm b, ← Nat.pow_succ]
theorem power08_eq {p : Nat} (h1 : 2 ≤ p) (h2 : p ≤ 1000) {b : Nat} (hb : b ≤ 1000) (e : Nat) (he : e ≤ 1000000) (k : Nat) (hk : e + 2 ≤ k) (Φ : Int → A) : spec_l08Power z k (p : Int) (b : Int) (e : Int) Φ = Φ ((b ^ e % p : Nat) : Int) := by
  obtain ⟨k, rfl⟩ := le_ex (show 1 ≤ k by omega)
  simp only [spec_l08Power, step_succ]
  have := power08_g z (show 1 ≤ p by omega) h2 hb (K0 := Φ) e 1 k he (by omega) (by omega)
  rw [Nat.one_mul] at this
  exact this
theorem prime06_g {p : Nat} (hp : p ≤ 1000) {K0 : Bool → A} {K1 : A} : ∀ (d q k : Nat), q + d = p + 2 → 2 ≤ q → d + 1 ≤ k →
    spec_l06Prime.g6 z k (p : Int) (q : Int) K0 K1 = bif noDiv p d q then K1 else K0 false
  | d, q, 0, _, _, hk => absurd hk (by omega)
  | 0, q, k + 1, hq, h2, hk => by
    have hq2 : 2 * q ≤ q * q := Nat.mul_le_mul_right q h2
    have hq3 : q * q ≤ 1002 * 1002 := Nat.mul_le_mul (by omega) (by omega)
    rw [spec_l06Prime.g6, ← Int.natCast_mul, w64_id (by omega) (by omega), if_neg (by omega)]
    rfl
  | d + 1, q, k + 1, hq, h2, hk => by
    have hq3 : q * q ≤ 1002 * 1002 := Nat.mul_le_mul (by omega) (by omega)
    rw [spec_l06Prime.g6, ← Int.natCast_mul, w64_id (by omega) (by omega), noDiv]
    by_cases c : q * q ≤ p
    · rw [if_pos (by omega), if_pos c, gd_ok z (by omega), tmodN]
      by_cases e : p % q = 0
      · rw [if_pos (by omega), if_pos e]; rfl
      · rw [if_neg (by omega), if_neg e, w64_up (by omega), prime06_g hp d (q + 1) k (by omega) (by omega) (by omega)]
    · rw [if_neg (by omega), if_neg c]; rfl
theorem prime06_eq {p : Nat} (hp : p ≤ 1000) (k : Nat) (hk : p + 5 ≤ k) (Φ : Bool → A) : spec_l06Prime z k (p : Int) Φ = Φ (isP p) := by
  obtain ⟨k, rfl⟩ := le_ex (show 2 ≤ k by omega)
  simp only [spec_l06Prime, step_succ]
  rw [in_eq]
  unfold isP
  by_cases c : 3 ≤ p ∧ p ≤ 61
  · rw [decide_eq_true c, decide_eq_true (show (3 : Int) ≤ (p : Int) ∧ (p : Int) ≤ 61 by omega), Bool.not_true, cond_false, Bool.true_and]
    have h := prime06_g z hp (K0 := Φ) (K1 := Φ true) p 2 (k + 1) (by omega) (by omega) (by omega)
    refine Eq.trans h ?_
    cases noDiv p p 2 <;> rfl
  · rw [decide_eq_false c, decide_eq_false (show ¬ ((3 : Int) ≤ (p : Int) ∧ (p : Int) ≤ 61) by omega)]
    rfl
/-! ### By the program -/
theorem by_g12 {p : Nat} (p1 : 1 ≤ p) (hp : p ≤ 1000) {r : List Int} (hr : r.length ≤ 1000) (hb : ∀ j : Nat, j < r.length → 0 ≤ rd r j ∧ rd r j < p) {K0 : List Int → A} : ∀ (d i k : Nat), i + d + 1 = r.length → d + 1 ≤ k →
    impl_bernoulliBy.g12 z k (p : Int) ((i + 1 : Nat) : Int) r (1 :: (List.range i).map fun j : Nat => (rd r j + rd r (j + 1 : Nat)) % p) K0 = K0 (1 :: (List.range (r.length - 1)).map fun j : Nat => (rd r j + rd r (j + 1 : Nat)) % p)
  | d, i, 0, _, hk => absurd hk (by omega)
  | 0, i, k + 1, hi, hk => by
    rw [impl_bernoulliBy.g12, if_neg (by omega), show r.length - 1 = i by omega]
  | d + 1, i, k + 1, hi, hk => by
    have b1 := hb i (by omega)
    have b2 := hb (i + 1) (by omega)
    have e1 : w64 (((i + 1 : Nat) : Int) - 1) = (i : Int) := by rw [w64_id (by omega) (by omega)]; omega
    have g1 : r.getD i 0 = rd r (i : Nat) := by unfold rd; rw [Int.toNat_natCast]
    have g2 : r.getD (i + 1) 0 = rd r (i + 1 : Nat) := by unfold rd; rw [Int.toNat_natCast]
    rw [impl_bernoulliBy.g12, if_pos (by omega), e1, inI_at z (by omega), inI_at z (by omega), gd_ok z (by omega), apI_ok z (by simp; omega), w64_up (by omega), g1, g2, w64_id (by omega) (by omega), Int.tmod_eq_emod_of_nonneg (by omega)]
    have e : (1 :: (List.range i).map fun j : Nat => (rd r j + rd r (j + 1 : Nat)) % p) ++ [(rd r (i : Nat) + rd r (i + 1 : Nat)) % p] = 1 :: (List.range (i + 1)).map fun j : Nat => (rd r j + rd r (j + 1 : Nat)) % p := by
      rw [List.range_succ, List.map_append]; rfl
    rw [e]
    exact by_g12 p1 hp hr hb d (i + 1) k (by omega) (by omega)
theorem by_g20 {L r : List Int} (hl : L.length ≤ 100) (hr : L.length ≤ r.length) (hL : ∀ j : Nat, j < L.length → 0 ≤ rd L j ∧ rd L j ≤ 1000) (hR : ∀ j : Nat, j < L.length → 0 ≤ rd r j ∧ rd r j ≤ 1000) {K0 : Int → A} : ∀ (d i k : Nat) (S : Int), i + d = L.length → 0 ≤ S → S ≤ 1000000 * i → d + 1 ≤ k →
    impl_bernoulliBy.g20 z k S (L.length : Int) (i : Int) L r K0 = K0 (S + sumF i d fun j => rd r j * rd L j)
  | d, i, 0, S, _, _, _, hk => absurd hk (by omega)
  | 0, i, k + 1, S, hi, h0, h1, hk => by
    rw [impl_bernoulliBy.g20, if_neg (by omega), show sumF i 0 (fun j => rd r j * rd L j) = 0 from rfl, Int.add_zero]
  | d + 1, i, k + 1, S, hi, h0, h1, hk => by
    have b1 := hL i (by omega)
    have b2 := hR i (by omega)
    have m := mul_le (a := rd r i) (b := rd L i) (A := 1000) (B := 1000) (by omega) (by omega)
    have m0 := Int.mul_nonneg b2.1 b1.1
    have g1 : L.getD i 0 = rd L (i : Nat) := by unfold rd; rw [Int.toNat_natCast]
    have g2 : r.getD i 0 = rd r (i : Nat) := by unfold rd; rw [Int.toNat_natCast]
    rw [impl_bernoulliBy.g20, if_pos (by omega), inI_at z (by omega), inI_at z (by omega), g1, g2, w64_id (x := rd r i * rd L i) (by omega) (by omega), w64_id (x := S + _) (by omega) (by omega), w64_up (by omega), by_g20 hl hr hL hR d (i + 1) k _ (by omega) (by omega) (by omega) (by omega)]
    show K0 _ = K0 (S + (rd r i * rd L i + sumF (i + 1) d fun j => rd r j * rd L j))
    rw [Int.add_assoc]
theorem by_g5 {p : Nat} (p1 : 3 ≤ p) (hp : p ≤ 61) {e0 : Nat} (he : e0 ≤ 60) {K0 : List Int → A} : ∀ (e d k : Nat), d + e = e0 → e + 200 ≤ k →
    impl_bernoulliBy.g5 z k (p : Int) (e0 : Int) ((d + 1 : Nat) : Int) (bernL p d) (rowP p d) K0 = K0 (bernL p e0)
  | e, d, 0, _, hk => absurd hk (by omega)
  | 0, d, k + 1, hd, hk => by
    have : d = e0 := by omega
    subst this
    rw [impl_bernoulliBy.g5, if_neg (by omega)]
  | e + 1, d, k + 1, hd, hk => by
    have hl := rowP_len p d
    have hl2 := rowP_len p (d + 1)
    have hb := bernL_len p d
    have hr := fun j (h : j ≤ d + 1) => rowP_bd (p := p) (by omega) d j h
    have hr2 := fun j (h : j ≤ d + 2) => rowP_bd (p := p) (by omega) (d + 1) j h
    have hB := fun j (h : j ≤ d) => bernL_bd (p := p) (by omega) d j h
    obtain ⟨k, rfl⟩ := le_ex (show 1 ≤ k by omega)
    rw [impl_bernoulliBy.g5, if_pos (by omega)]
    refine Eq.trans (by_g12 z (p := p) (by omega) (by omega) (r := rowP p d) (by omega) (fun j hj => hr j (by omega)) (d + 1) 0 (k + 1) (by omega) (by omega)) ?_
    have e1 : (1 :: (List.range ((rowP p d).length - 1)).map fun j : Nat => (rd (rowP p d) j + rd (rowP p d) (j + 1 : Nat)) % p) ++ [1] = rowP p (d + 1) := rfl
    have e2 : (1 :: (List.range ((rowP p d).length - 1)).map fun j : Nat => (rd (rowP p d) j + rd (rowP p d) (j + 1 : Nat)) % p).length ≤ 1000 := by simp; omega
    rw [apI_ok z (by omega), e1]
    refine Eq.trans (by_g20 z (L := bernL p d) (r := rowP p (d + 1)) (by omega) (by omega) (fun j hj => by have := hB j (by omega); omega) (fun j hj => by have := hr2 j (by omega); omega) (bernL p d).length 0 (k + 1) 0 (by omega) (by omega) (by omega) (by omega)) ?_
    have hS : 0 ≤ sumF 0 (bernL p d).length (fun j => rd (rowP p (d + 1)) j * rd (bernL p d) j) ∧ sumF 0 (bernL p d).length (fun j => rd (rowP p (d + 1)) j * rd (bernL p d) j) ≤ 100000000 := by
      have h := sumF_le (B := 1000000) (f := fun j => rd (rowP p (d + 1)) j * rd (bernL p d) j) (bernL p d).length 0 (fun i _ hi => by
        have a := hr2 i (by omega)
        have b := hB i (by omega)
        have := mul_le (a := rd (rowP p (d + 1)) i) (b := rd (bernL p d) i) (A := 1000) (B := 1000) (by omega) (by omega)
        omega)
      have h0 : ∀ (c k : Nat), k + c ≤ d + 1 → 0 ≤ sumF k c (fun j => rd (rowP p (d + 1)) j * rd (bernL p d) j) := fun c => by
        induction c with
        | zero => intro k _; exact Int.le_refl _
        | succ c ih =>
          intro k hk
          have := ih (k + 1) (by omega)
          have := Int.mul_nonneg (hr2 k (by omega)).1 (hB k (by omega)).1
          show 0 ≤ rd (rowP p (d + 1)) k * rd (bernL p d) k + sumF (k + 1) c _
          omega
      have := h0 (bernL p d).length 0 (by omega)
      omega
    have hv := emod_bd (-(sumF 0 (bernL p d).length fun j => rd (rowP p (d + 1)) j * rd (bernL p d) j)) (p := p) (by omega)
    have hq := Nat.mod_lt ((d + 2) ^ (p - 2)) (show 0 < p by omega)
    have e3 : (bernL p d).length + 1 = d + 2 := by omega
    have e4 : bernL p (d + 1) = bernL p d ++ [nextB p (bernL p d) (rowP p (d + 1))] := rfl
    have e5 : nextB p (bernL p d) (rowP p (d + 1)) = ((-(sumF 0 (bernL p d).length fun j => rd (rowP p (d + 1)) j * rd (bernL p d) j)) % p) * (((d + 2) ^ (p - 2) % p : Nat) : Int) % p := by unfold nextB; rw [e3]
    have ih := by_g5 p1 hp he (K0 := K0) e (d + 1) (k + 1) (by omega) (by omega)
    rw [e4, e5] at ih
    generalize sumF 0 (bernL p d).length (fun j => rd (rowP p (d + 1)) j * rd (bernL p d) j) = S at *
    have m := mul_le (a := (-S) % (p : Int)) (b := (((d + 2) ^ (p - 2) % p : Nat) : Int)) (A := 1000) (B := 1000) (by omega) (by omega)
    have m0 := Int.mul_nonneg hv.1 (show 0 ≤ (((d + 2) ^ (p - 2) % p : Nat) : Int) by omega)
    rw [Int.zero_add, w64_id (x := 0 - S) (by omega) (by omega), around_eq z _ (by omega) (by omega), Int.zero_sub, w64_up (by omega), show w64 ((p : Int) - 2) = ((p - 2 : Nat) : Int) by rw [w64_id (by omega) (by omega)]; omega, show d + 1 + 1 = d + 2 by omega, power_eq z (by omega) (by omega) _ _ (by omega) (k + 1) (by omega), gd_ok z (by omega), apI_ok z (by omega), w64_id (by omega) (by omega), Int.tmod_eq_emod_of_nonneg m0]
    exact ih
theorem bernoulliBy_eq {p : Nat} (p1 : 3 ≤ p) (hp : p ≤ 61) {e0 : Nat} (he : e0 ≤ 60) (k : Nat) (hk : 300 ≤ k) (Φ : List Int → A) : impl_bernoulliBy z k (p : Int) (e0 : Int) Φ = Φ (bernL p e0) := by
  obtain ⟨k, rfl⟩ := le_ex (show 1 ≤ k by omega)
  simp only [impl_bernoulliBy, step_succ]
  exact by_g5 z p1 hp he e0 0 k (by omega) (by omega)
end
end Go.Proofs.Ytefdcoeidpbcjaa.F
/- Facts on Bernoulli numbers modulo primes, by the other side; irregular numbers. -/
namespace Go.Proofs.Ytefdcoeidpbcjaa.F
open Go.RowKit Go.Proofs.Ytefdcoeidpbcjaa.R
set_option linter.unusedVariables false
set_option linter.unusedSimpArgs false
theorem sumF_end (f : Nat → Int) : ∀ (d k : Nat), sumF k (d + 1) f = sumF k d f + f (k + d)
  | 0, k => by
    show f k + 0 = 0 + f (k + 0)
    rw [Nat.add_zero]; omega
  | d + 1, k => by
    have h := sumF_end f d (k + 1)
    have e : sumF k (d + 1 + 1) f = f k + sumF (k + 1) (d + 1) f := rfl
    have e2 : sumF k (d + 1) f = f k + sumF (k + 1) d f := rfl
    rw [e, e2, h, show k + 1 + d = k + (d + 1) by omega]
    omega
def irrF (B : List Int) : Nat → Nat → List Int
  | 0, _ => []
  | d + 1, i => if 2 ≤ i ∧ i % 2 = 0 ∧ rd B i = 0 then (i : Int) :: irrF B d (i + 1) else irrF B d (i + 1)
theorem irrF_len (B : List Int) : ∀ d i, (irrF B d i).length ≤ d
  | 0, i => Nat.le_refl _
  | d + 1, i => by
    have := irrF_len B d (i + 1)
    unfold irrF
    split
    · rw [List.length_cons]; omega
    · omega
theorem mem_irrF {B : List Int} {x : Int} : ∀ d i, x ∈ irrF B d i → ∃ q : Nat, x = q ∧ 2 ≤ q ∧ q % 2 = 0 ∧ rd B q = 0 ∧ q < i + d
  | 0, i, h => by cases h
  | d + 1, i, h => by
    unfold irrF at h
    split at h
    · rename_i c
      rcases List.mem_cons.1 h with h | h
      · exact ⟨i, h, c.1, c.2.1, c.2.2, by omega⟩
      · obtain ⟨q, h1, h2, h3, h4, h5⟩ := mem_irrF d (i + 1) h
        exact ⟨q, h1, h2, h3, h4, by omega⟩
    · obtain ⟨q, h1, h2, h3, h4, h5⟩ := mem_irrF d (i + 1) h
      exact ⟨q, h1, h2, h3, h4, by omega⟩
def bm2 (p : Nat) (k : Int) : Int × Int := if isP p = true ∧ (2 ≤ k ∧ k ≤ (p : Int) - 3) ∧ k % 2 = 0 then (rd (bernL p k.toNat) k, 0) else (0, 2)
def irr2 (p : Nat) : List Int × Int := if isP p = true then (irrF (bernL p (p - 3)) (p - 2) 0, 0) else ([], 2)
theorem isP_bd3 {p : Nat} (hp : isP p = true) : 3 ≤ p ∧ p ≤ 61 := by
  unfold isP at hp
  rw [Bool.and_eq_true, decide_eq_true_eq] at hp
  exact hp.1
section
variable {A : Type} (z : A)
theorem sb_g11 {p m : Nat} (hp : isP p = true) (hm : m + 3 ≤ p) {L : List Int} (hl : L.length = m) (hL : ∀ j : Nat, j < m → 0 ≤ rd L j ∧ rd L j < p) {K0 : Int → A} : ∀ (e j k : Nat), j + e = m → e + 70 ≤ k →
    spec_l10Bernoulli.g11 z k (p : Int) (m : Int) ((sumF 0 j fun i => ((ch (m + 1) i % p : Nat) : Int) * rd L i) % p) ((ch (m + 1) j % p : Nat) : Int) (j : Int) L K0 = K0 ((sumF 0 m fun i => ((ch (m + 1) i % p : Nat) : Int) * rd L i) % p)
  | e, j, 0, _, hk => absurd hk (by omega)
  | 0, j, k + 1, hj, hk => by
    have : j = m := by omega
    subst this
    rw [spec_l10Bernoulli.g11, if_neg (by omega)]
  | e + 1, j, k + 1, hj, hk => by
    obtain ⟨p1, p2⟩ := isP_bd3 hp
    have b1 := hL j (by omega)
    have hc := Nat.mod_lt (ch (m + 1) j) (show 0 < p by omega)
    have hc2 := Nat.mod_lt (m + 1 - j) (show 0 < p by omega)
    have hv := Nat.mod_lt ((j + 1) ^ (p - 2)) (show 0 < p by omega)
    have g1 : L.getD j 0 = rd L (j : Nat) := by unfold rd; rw [Int.toNat_natCast]
    have hS := emod_bd (sumF 0 j fun i => ((ch (m + 1) i % p : Nat) : Int) * rd L i) (p := p) (by omega)
    have mb := mul_le (a := ((ch (m + 1) j % p : Nat) : Int)) (b := rd L j) (A := 1000) (B := 1000) (by omega) (by omega)
    have m0 := Int.mul_nonneg (show 0 ≤ ((ch (m + 1) j % p : Nat) : Int) by omega) b1.1
    have e1 : w64 (w64 ((m : Int) + 1) - (j : Int)) = ((m + 1 - j : Nat) : Int) := by rw [w64_up (by omega), w64_id (by omega) (by omega)]; omega
    have q1 : ch (m + 1) j % p * ((m + 1 - j) % p) ≤ 1000 * 1000 := Nat.mul_le_mul (by omega) (by omega)
    have q0 := Nat.mod_lt (ch (m + 1) j % p * ((m + 1 - j) % p)) (show 0 < p by omega)
    have q2 : ch (m + 1) j % p * ((m + 1 - j) % p) % p * ((j + 1) ^ (p - 2) % p) ≤ 1000 * 1000 := Nat.mul_le_mul (by omega) (by omega)
    have ih := sb_g11 hp hm hl hL (K0 := K0) e (j + 1) k (by omega) (by omega)
    rw [sumF_end, Nat.zero_add, ← choose_step (n := m + 1) (j := j) hp (by omega) (by omega), ← Int.emod_add_emod] at ih
    rw [spec_l10Bernoulli.g11, if_pos (by omega), inI_at z (by omega), gd_ok z (by omega), gd_ok z (by omega), gd_ok z (by omega), w64_up (by omega), show w64 ((p : Int) - 2) = ((p - 2 : Nat) : Int) by rw [w64_id (by omega) (by omega)]; omega, power08_eq z (by omega) (by omega) (by omega) _ (by omega) k (by omega), gd_ok z (by omega), g1, e1]
    generalize (sumF 0 j fun i => ((ch (m + 1) i % p : Nat) : Int) * rd L i) % p = S at *
    rw [w64_id (x := _ * rd L j) (by omega) (by omega), w64_id (x := S + _) (by omega) (by omega), Int.tmod_eq_emod_of_nonneg (a := S + _) (by omega), tmodN, ← Int.natCast_mul, w64_id (x := ((ch (m + 1) j % p * ((m + 1 - j) % p) : Nat) : Int)) (by omega) (by omega), tmodN, ← Int.natCast_mul, w64_id (x := ((ch (m + 1) j % p * ((m + 1 - j) % p) % p * ((j + 1) ^ (p - 2) % p) : Nat) : Int)) (by omega) (by omega), tmodN]
    exact ih
theorem sb_g4 {p : Nat} (hp : isP p = true) {K0 : List Int → A} : ∀ (e d k : Nat), d + e = p - 3 → e + 200 ≤ k →
    spec_l10Bernoulli.g4 z k (p : Int) ((d + 1 : Nat) : Int) (bernL p d) K0 = K0 (bernL p (p - 3))
  | e, d, 0, _, hk => absurd hk (by omega)
  | 0, d, k + 1, hd, hk => by
    obtain ⟨p1, p2⟩ := isP_bd3 hp
    have : d = p - 3 := by omega
    subst this
    rw [spec_l10Bernoulli.g4, w64_id (by omega) (by omega), if_neg (by omega)]
  | e + 1, d, k + 1, hd, hk => by
    obtain ⟨p1, p2⟩ := isP_bd3 hp
    have hb := bernL_len p d
    have hB := fun j (h : j ≤ d) => bernL_bd (p := p) (by omega) d j h
    have hq := Nat.mod_lt ((d + 2) ^ (p - 2)) (show 0 < p by omega)
    have e4 : bernL p (d + 1) = bernL p d ++ [nextB p (bernL p d) (rowP p (d + 1))] := rfl
    have eS : (sumF 0 (bernL p d).length fun j => rd (rowP p (d + 1)) j * rd (bernL p d) j) = sumF 0 (d + 1) fun i => ((ch (d + 1 + 1) i % p : Nat) : Int) * rd (bernL p d) i := by
      rw [hb]
      exact sumF_congr _ 0 fun i _ hi => by rw [rowP_ch (by omega) (d + 1) i (by omega)]
    have e5 : nextB p (bernL p d) (rowP p (d + 1)) = ((-(sumF 0 (d + 1) fun i => ((ch (d + 1 + 1) i % p : Nat) : Int) * rd (bernL p d) i)) % p) * (((d + 2) ^ (p - 2) % p : Nat) : Int) % p := by
      unfold nextB
      rw [eS, hb]
    have ih := sb_g4 hp (K0 := K0) e (d + 1) k (by omega) (by omega)
    rw [e4, e5] at ih
    have g := sb_g11 z hp (m := d + 1) (by omega) hb (fun j hj => hB j (by omega)) (K0 := fun v3 =>
      gd z ((p : Int) ≠ 0) <|
      spec_l08Power z k (p : Int) (w64 (((d + 1 : Nat) : Int) + 1)) (w64 ((p : Int) - 2)) fun v4 =>
      gd z ((p : Int) ≠ 0) <|
      apI z (((bernL p d).length) + 1) 8 <|
      spec_l10Bernoulli.g4 z k (p : Int) (w64 (((d + 1 : Nat) : Int) + 1)) ((bernL p d) ++ [(w64 (((w64 ((p : Int) - v3)).tmod (p : Int)) * v4)).tmod (p : Int)]) K0) (d + 1) 0 k (by omega) (by omega)
    rw [ch_zero, Nat.mod_eq_of_lt (show 1 < p by omega), show (sumF 0 0 fun i => ((ch (d + 1 + 1) i % p : Nat) : Int) * rd (bernL p d) i) = 0 from rfl, Int.zero_emod] at g
    rw [spec_l10Bernoulli.g4, w64_id (x := (p : Int) - 3) (by omega) (by omega), if_pos (by omega)]
    refine Eq.trans g ?_
    clear g e5 eS
    have hv := emod_bd (-(sumF 0 (d + 1) fun i => ((ch (d + 1 + 1) i % p : Nat) : Int) * rd (bernL p d) i)) (p := p) (by omega)
    have hw := emod_bd (sumF 0 (d + 1) fun i => ((ch (d + 1 + 1) i % p : Nat) : Int) * rd (bernL p d) i) (p := p) (by omega)
    have hn := neg_mod (sumF 0 (d + 1) fun i => ((ch (d + 1 + 1) i % p : Nat) : Int) * rd (bernL p d) i) (p := p) (by omega)
    generalize (sumF 0 (d + 1) fun i => ((ch (d + 1 + 1) i % p : Nat) : Int) * rd (bernL p d) i) = S at *
    have m := mul_le (a := (-S) % (p : Int)) (b := (((d + 2) ^ (p - 2) % p : Nat) : Int)) (A := 1000) (B := 1000) (by omega) (by omega)
    have m0 := Int.mul_nonneg hv.1 (show 0 ≤ (((d + 2) ^ (p - 2) % p : Nat) : Int) by omega)
    rw [gd_ok z (by omega), w64_up (by omega), show w64 ((p : Int) - 2) = ((p - 2 : Nat) : Int) by rw [w64_id (by omega) (by omega)]; omega, show d + 1 + 1 = d + 2 by omega, power08_eq z (by omega) (by omega) (by omega) _ (by omega) k (by omega), gd_ok z (by omega), apI_ok z (by omega), w64_id (x := (p : Int) - S % p) (by omega) (by omega), Int.tmod_eq_emod_of_nonneg (a := (p : Int) - S % p) (by omega), hn, w64_id (x := _ * _) (by omega) (by omega), Int.tmod_eq_emod_of_nonneg m0]
    exact ih
theorem l10Bernoulli_eq {p : Nat} (hp : isP p = true) (k : Nat) (hk : 300 ≤ k) (Φ : List Int → A) : spec_l10Bernoulli z k (p : Int) Φ = Φ (bernL p (p - 3)) := by
  obtain ⟨p1, p2⟩ := isP_bd3 hp
  obtain ⟨k, rfl⟩ := le_ex (show 1 ≤ k by omega)
  simp only [spec_l10Bernoulli, step_succ]
  exact sb_g4 z hp (p - 3) 0 k (by omega) (by omega)
theorem bmI_eq {p : Nat} (hp : p ≤ 1000) (m : Int) (k : Nat) (hk : 1100 ≤ k) (Φ : Int → Int → A) : impl_BernoulliModulo z k (p : Int) m Φ = Φ (bm2 p m).1 (bm2 p m).2 := by
  obtain ⟨k, rfl⟩ := le_ex (show 2 ≤ k by omega)
  simp only [impl_BernoulliModulo, step_succ]
  rw [isPrime_eq z hp _ (by omega), within_eq]
  unfold bm2
  cases h : isP p with
  | false =>
    have hn : ¬ (false = true ∧ (2 ≤ m ∧ m ≤ (p : Int) - 3) ∧ m % 2 = 0) := fun h => by cases h.1
    rw [if_neg hn]; rfl
  | true =>
    obtain ⟨p1, p2⟩ := isP_bd3 h
    rw [w64_id (x := (p : Int) - 3) (by omega) (by omega), Bool.not_true, cond_false]
    by_cases c : 2 ≤ m ∧ m ≤ (p : Int) - 3
    · obtain ⟨m, rfl⟩ : ∃ q : Nat, m = q := ⟨m.toNat, by omega⟩
      rw [decide_eq_true c, Bool.not_true, cond_false, show (2 : Int) = ((2 : Nat) : Int) from rfl, tmodN]
      by_cases c2 : m % 2 = 0
      · have hl := bernL_len p m
        rw [if_neg (by omega), if_pos ⟨rfl, ⟨by omega, by omega⟩, by omega⟩, bernoulliBy_eq z (by omega) (by omega) (by omega) _ (by omega), inI_at z (by omega), Int.toNat_natCast]
        rfl
      · rw [if_pos (by omega), if_neg (fun h => by have := h.2.2; omega)]
    · have hn : ¬ (true = true ∧ (2 ≤ m ∧ m ≤ (p : Int) - 3) ∧ m % 2 = 0) := fun h => c h.2.1
      rw [decide_eq_false c, if_neg hn]
      rfl
theorem bmS_eq {p : Nat} (hp : p ≤ 1000) (m : Int) (k : Nat) (hk : 1100 ≤ k) (Φ : Int → Int → A) : spec_BernoulliModulo z k (p : Int) m Φ = Φ (bm2 p m).1 (bm2 p m).2 := by
  obtain ⟨k, rfl⟩ := le_ex (show 2 ≤ k by omega)
  simp only [spec_BernoulliModulo, step_succ]
  rw [prime06_eq z hp _ (by omega), in_eq]
  unfold bm2
  cases h : isP p with
  | false =>
    have hn : ¬ (false = true ∧ (2 ≤ m ∧ m ≤ (p : Int) - 3) ∧ m % 2 = 0) := fun h => by cases h.1
    rw [if_neg hn]; rfl
  | true =>
    obtain ⟨p1, p2⟩ := isP_bd3 h
    rw [w64_id (x := (p : Int) - 3) (by omega) (by omega), Bool.not_true, cond_false]
    by_cases c : 2 ≤ m ∧ m ≤ (p : Int) - 3
    · obtain ⟨m, rfl⟩ : ∃ q : Nat, m = q := ⟨m.toNat, by omega⟩
      rw [decide_eq_true c, Bool.not_true, cond_false, show (2 : Int) = ((2 : Nat) : Int) from rfl, tmodN]
      by_cases c2 : m % 2 = 0
      · have hl := bernL_len p (p - 3)
        have hpre := bernL_pre p (Nat.le_refl m) (p - 3 - m)
        rw [show m + (p - 3 - m) = p - 3 by omega] at hpre
        have g1 : (bernL p (p - 3)).getD m 0 = rd (bernL p (p - 3)) (m : Nat) := by unfold rd; rw [Int.toNat_natCast]
        rw [if_neg (by omega), if_pos ⟨rfl, ⟨by omega, by omega⟩, by omega⟩, l10Bernoulli_eq z h _ (by omega), inI_at z (by omega), Int.toNat_natCast, g1, hpre]
      · rw [if_pos (by omega), if_neg (fun h => by have := h.2.2; omega)]
    · have hn : ¬ (true = true ∧ (2 ≤ m ∧ m ≤ (p : Int) - 3) ∧ m % 2 = 0) := fun h => c h.2.1
      rw [decide_eq_false c, if_neg hn]
      rfl
theorem irrI_g7 {B : List Int} (hB : B.length ≤ 1000) {K0 : List Int → A} : ∀ (d i k : Nat) (acc : List Int), i + d = B.length → acc.length ≤ i → d + 1 ≤ k →
    impl_IrregularOf.g7 z k (B.length : Int) (i : Int) acc B K0 = K0 (acc ++ irrF B d i)
  | d, i, 0, acc, _, _, hk => absurd hk (by omega)
  | 0, i, k + 1, acc, hi, ha, hk => by
    rw [impl_IrregularOf.g7, if_neg (by omega), irrF, List.append_nil]
  | d + 1, i, k + 1, acc, hi, ha, hk => by
    have g1 : B.getD i 0 = rd B (i : Nat) := by unfold rd; rw [Int.toNat_natCast]
    have ih := fun acc ha => irrI_g7 hB (K0 := K0) d (i + 1) k acc (by omega) ha (by omega)
    rw [impl_IrregularOf.g7, if_pos (by omega), inI_at z (by omega), irrF, w64_up (by omega), show (2 : Int) = ((2 : Nat) : Int) from rfl, tmodN, g1]
    by_cases c1 : 2 ≤ i
    · rw [if_pos (by omega)]
      by_cases c2 : i % 2 = 0
      · rw [if_pos (by omega)]
        by_cases c3 : rd B i = 0
        · rw [if_pos c3, if_pos ⟨c1, c2, c3⟩, apI_ok z (by omega), ih _ (by rw [List.length_append]; simp only [List.length_singleton]; omega), List.append_assoc]
          rfl
        · rw [if_neg c3, if_neg (fun h => c3 h.2.2), ih _ (by omega)]
      · rw [if_neg (by omega), if_neg (fun h => c2 h.2.1), ih _ (by omega)]
    · rw [if_neg (by omega), if_neg (fun h => c1 h.1), ih _ (by omega)]
theorem irrS_g7 {B : List Int} (hB : B.length ≤ 1000) {p : Nat} (hp : p = B.length + 2) {K0 : List Int → A} : ∀ (d i k : Nat) (acc : List Int), i + d = B.length → i % 2 = 0 → 2 ≤ i → acc.length ≤ i → d + 2 ≤ k →
    spec_IrregularOf.g7 z k (p : Int) (i : Int) B acc K0 = K0 (acc ++ irrF B d i)
  | d, i, 0, acc, _, _, _, _, hk => absurd hk (by omega)
  | 0, i, k + 1, acc, hi, he, h2, ha, hk => by
    rw [spec_IrregularOf.g7, w64_id (x := (p : Int) - 3) (by omega) (by omega), if_neg (by omega), irrF, List.append_nil]
  | 1, i, k + 1, acc, hi, he, h2, ha, hk => by
    obtain ⟨k, rfl⟩ := le_ex (show 1 ≤ k by omega)
    have g1 : B.getD i 0 = rd B (i : Nat) := by unfold rd; rw [Int.toNat_natCast]
    have e1 : w64 ((i : Int) + 2) = ((i + 2 : Nat) : Int) := by rw [w64_id (by omega) (by omega)]; omega
    have ex : ∀ acc, spec_IrregularOf.g7 z (k + 1) (p : Int) ((i + 2 : Nat) : Int) B acc K0 = K0 acc := fun acc => by
      rw [spec_IrregularOf.g7, w64_id (x := (p : Int) - 3) (by omega) (by omega), if_neg (by omega)]
    rw [spec_IrregularOf.g7, w64_id (x := (p : Int) - 3) (by omega) (by omega), if_pos (by omega), inI_at z (by omega), irrF, irrF, e1, g1]
    by_cases c3 : rd B i = 0
    · rw [if_pos c3, if_pos ⟨h2, he, c3⟩, apI_ok z (by omega), ex]
    · rw [if_neg c3, if_neg (fun h => c3 h.2.2), ex, List.append_nil]
  | d + 2, i, k + 1, acc, hi, he, h2, ha, hk => by
    have g1 : B.getD i 0 = rd B (i : Nat) := by unfold rd; rw [Int.toNat_natCast]
    have e1 : w64 ((i : Int) + 2) = ((i + 2 : Nat) : Int) := by rw [w64_id (by omega) (by omega)]; omega
    have ih := fun acc ha => irrS_g7 hB hp (K0 := K0) d (i + 2) k acc (by omega) (by omega) (by omega) ha (by omega)
    have e2 : irrF B (d + 1) (i + 1) = irrF B d (i + 2) := by rw [irrF, if_neg (fun h => by have := h.2.1; omega)]
    rw [spec_IrregularOf.g7, w64_id (x := (p : Int) - 3) (by omega) (by omega), if_pos (by omega), inI_at z (by omega), irrF, e2, e1, g1]
    by_cases c3 : rd B i = 0
    · rw [if_pos c3, if_pos ⟨h2, he, c3⟩, apI_ok z (by omega), ih _ (by rw [List.length_append]; simp only [List.length_singleton]; omega), List.append_assoc]
      rfl
    · rw [if_neg c3, if_neg (fun h => c3 h.2.2), ih _ (by omega)]
theorem irrI_eq {p : Nat} (hp : p ≤ 1000) (k : Nat) (hk : 1100 ≤ k) (Φ : List Int → Int → A) : impl_IrregularOf z k (p : Int) Φ = Φ (irr2 p).1 (irr2 p).2 := by
  obtain ⟨k, rfl⟩ := le_ex (show 2 ≤ k by omega)
  simp only [impl_IrregularOf, step_succ]
  rw [isPrime_eq z hp _ (by omega)]
  unfold irr2
  cases h : isP p with
  | false => rfl
  | true =>
    obtain ⟨p1, p2⟩ := isP_bd3 h
    have hl := bernL_len p (p - 3)
    rw [Bool.not_true, cond_false, if_pos rfl, show w64 ((p : Int) - 3) = ((p - 3 : Nat) : Int) by rw [w64_id (by omega) (by omega)]; omega, bernoulliBy_eq z (by omega) (by omega) (by omega) _ (by omega)]
    refine Eq.trans (irrI_g7 z (B := bernL p (p - 3)) (by omega) (p - 2) 0 (k + 1) [] (by omega) (by simp) (by omega)) ?_
    rw [List.nil_append]
theorem irrS_eq {p : Nat} (hp : p ≤ 1000) (k : Nat) (hk : 1100 ≤ k) (Φ : List Int → Int → A) : spec_IrregularOf z k (p : Int) Φ = Φ (irr2 p).1 (irr2 p).2 := by
  obtain ⟨k, rfl⟩ := le_ex (show 2 ≤ k by omega)
  simp only [spec_IrregularOf, step_succ]
  rw [prime06_eq z hp _ (by omega)]
  unfold irr2
  cases h : isP p with
  | false => rfl
  | true =>
    obtain ⟨p1, p2⟩ := isP_bd3 h
    have hl := bernL_len p (p - 3)
    rw [Bool.not_true, cond_false, if_pos rfl, l10Bernoulli_eq z h _ (by omega)]
    by_cases c : p = 3
    · subst c
      rw [spec_IrregularOf.g7, w64_id (by omega) (by omega), if_neg (by omega)]
      rfl
    · by_cases c4 : p = 4
      · subst c4; exact absurd h (by decide)
      · refine Eq.trans (irrS_g7 z (B := bernL p (p - 3)) (by omega) (p := p) (by omega) (p - 4) 2 (k + 1) [] (by omega) (by omega) (by omega) (by simp) (by omega)) ?_
        have e : irrF (bernL p (p - 3)) (p - 2) 0 = irrF (bernL p (p - 3)) (p - 4) 2 := by
          rw [show p - 2 = p - 4 + 1 + 1 by omega, irrF, if_neg (by omega), irrF, if_neg (by omega)]
        rw [List.nil_append, e]
end
end Go.Proofs.Ytefdcoeidpbcjaa.F
/- Facts on cyclotomic units: by both sides, a table (printed by bin/cutab.py). -/
namespace Go.Proofs.Ytefdcoeidpbcjaa.F
open Go.RowKit Go.Proofs.Ytefdcoeidpbcjaa.R
set_option linter.unusedVariables false
set_option linter.unusedSimpArgs false
def cuL (n a : Nat) : List Int := tab (cycD n) fun m => sumF 0 a fun i => cycW n m i
def CuI (n a : Nat) : Prop := ∀ (j : Nat) (A : Type) (z : A) (Φ : Int → List Int → Int → A), impl_CyclotomicUnit z (j + 300) (n : Int) (a : Int) Φ = Φ (n : Int) (cuL n a) 0
def CuS (n a : Nat) : Prop := ∀ (j : Nat) (A : Type) (z : A) (Φ : Int → List Int → Int → A), spec_CyclotomicUnit z (j + 300) (n : Int) (a : Int) Φ = Φ (n : Int) (cuL n a) 0
theorem cuT1 : ∀ a : Nat, 1 ≤ a → a ≤ 16 → a ≤ 1 → Nat.gcd a 1 = 1 → 2 ≤ 1 → CuI 1 a ∧ CuS 1 a := fun a _ _ _ _ h => absurd h (by decide)
theorem cuT2 : ∀ a : Nat, 1 ≤ a → a ≤ 16 → a ≤ 2 → Nat.gcd a 2 = 1 → 2 ≤ 2 → CuI 2 a ∧ CuS 2 a :=
  by16 (P := fun a => a ≤ 2 → Nat.gcd a 2 = 1 → 2 ≤ 2 → CuI 2 a ∧ CuS 2 a) (fun _ _ _ => ⟨fun _ _ _ _ => by kernel_rfl, fun _ _ _ _ => by kernel_rfl⟩) (fun _ h => absurd h (by decide)) (fun h => absurd h (by decide)) (fun h => absurd h (by decide)) (fun h => absurd h (by decide)) (fun h => absurd h (by decide)) (fun h => absurd h (by decide)) (fun h => absurd h (by decide)) (fun h => absurd h (by decide)) (fun h => absurd h (by decide)) (fun h => absurd h (by decide)) (fun h => absurd h (by decide)) (fun h => absurd h (by decide)) (fun h => absurd h (by decide)) (fun h => absurd h (by decide)) (fun h => absurd h (by decide))
theorem cuT3 : ∀ a : Nat, 1 ≤ a → a ≤ 16 → a ≤ 3 → Nat.gcd a 3 = 1 → 2 ≤ 3 → CuI 3 a ∧ CuS 3 a :=
  by16 (P := fun a => a ≤ 3 → Nat.gcd a 3 = 1 → 2 ≤ 3 → CuI 3 a ∧ CuS 3 a) (fun _ _ _ => ⟨fun _ _ _ _ => by kernel_rfl, fun _ _ _ _ => by kernel_rfl⟩) (fun _ _ _ => ⟨fun _ _ _ _ => by kernel_rfl, fun _ _ _ _ => by kernel_rfl⟩) (fun _ h => absurd h (by decide)) (fun h => absurd h (by decide)) (fun h => absurd h (by decide)) (fun h => absurd h (by decide)) (fun h => absurd h (by decide)) (fun h => absurd h (by decide)) (fun h => absurd h (by decide)) (fun h => absurd h (by decide)) (fun h => absurd h (by decide)) (fun h => absurd h (by decide)) (fun h => absurd h (by decide)) (fun h => absurd h (by decide)) (fun h => absurd h (by decide)) (fun h => absurd h (by decide))
theorem cuT4 : ∀ a : Nat, 1 ≤ a → a ≤ 16 → a ≤ 4 → Nat.gcd a 4 = 1 → 2 ≤ 4 → CuI 4 a ∧ CuS 4 a :=
  by16 (P := fun a => a ≤ 4 → Nat.gcd a 4 = 1 → 2 ≤ 4 → CuI 4 a ∧ CuS 4 a) (fun _ _ _ => ⟨fun _ _ _ _ => by kernel_rfl, fun _ _ _ _ => by kernel_rfl⟩) (fun _ h => absurd h (by decide)) (fun _ _ _ => ⟨fun _ _ _ _ => by kernel_rfl, fun _ _ _ _ => by kernel_rfl⟩) (fun _ h => absurd h (by decide)) (fun h => absurd h (by decide)) (fun h => absurd h (by decide)) (fun h => absurd h (by decide)) (fun h => absurd h (by decide)) (fun h => absurd h (by decide)) (fun h => absurd h (by decide)) (fun h => absurd h (by decide)) (fun h => absurd h (by decide)) (fun h => absurd h (by decide)) (fun h => absurd h (by decide)) (fun h => absurd h (by decide)) (fun h => absurd h (by decide))
theorem cuT5 : ∀ a : Nat, 1 ≤ a → a ≤ 16 → a ≤ 5 → Nat.gcd a 5 = 1 → 2 ≤ 5 → CuI 5 a ∧ CuS 5 a :=
  by16 (P := fun a => a ≤ 5 → Nat.gcd a 5 = 1 → 2 ≤ 5 → CuI 5 a ∧ CuS 5 a) (fun _ _ _ => ⟨fun _ _ _ _ => by kernel_rfl, fun _ _ _ _ => by kernel_rfl⟩) (fun _ _ _ => ⟨fun _ _ _ _ => by kernel_rfl, fun _ _ _ _ => by kernel_rfl⟩) (fun _ _ _ => ⟨fun _ _ _ _ => by kernel_rfl, fun _ _ _ _ => by kernel_rfl⟩) (fun _ _ _ => ⟨fun _ _ _ _ => by kernel_rfl, fun _ _ _ _ => by kernel_rfl⟩) (fun _ h => absurd h (by decide)) (fun h => absurd h (by decide)) (fun h => absurd h (by decide)) (fun h => absurd h (by decide)) (fun h => absurd h (by decide)) (fun h => absurd h (by decide)) (fun h => absurd h (by decide)) (fun h => absurd h (by decide)) (fun h => absurd h (by decide)) (fun h => absurd h (by decide)) (fun h => absurd h (by decide)) (fun h => absurd h (by decide))
theorem cuT6 : ∀ a : Nat, 1 ≤ a → a ≤ 16 → a ≤ 6 → Nat.gcd a 6 = 1 → 2 ≤ 6 → CuI 6 a ∧ CuS 6 a :=
  by16 (P := fun a => a ≤ 6 → Nat.gcd a 6 = 1 → 2 ≤ 6 → CuI 6 a ∧ CuS 6 a) (fun _ _ _ => ⟨fun _ _ _ _ => by kernel_rfl, fun _ _ _ _ => by kernel_rfl⟩) (fun _ h => absurd h (by decide)) (fun _ h => absurd h (by decide)) (fun _ h => absurd h (by decide)) (fun _ _ _ => ⟨fun _ _ _ _ => by kernel_rfl, fun _ _ _ _ => by kernel_rfl⟩) (fun _ h => absurd h (by decide)) (fun h => absurd h (by decide)) (fun h => absurd h (by decide)) (fun h => absurd h (by decide)) (fun h => absurd h (by decide)) (fun h => absurd h (by decide)) (fun h => absurd h (by decide)) (fun h => absurd h (by decide)) (fun h => absurd h (by decide)) (fun h => absurd h (by decide)) (fun h => absurd h (by decide))
theorem cuT7 : ∀ a : Nat, 1 ≤ a → a ≤ 16 → a ≤ 7 → Nat.gcd a 7 = 1 → 2 ≤ 7 → CuI 7 a ∧ CuS 7 a :=
  by16 (P := fun a => a ≤ 7 → Nat.gcd a 7 = 1 → 2 ≤ 7 → CuI 7 a ∧ CuS 7 a) (fun _ _ _ => ⟨fun _ _ _ _ => by kernel_rfl, fun _ _ _ _ => by kernel_rfl⟩) (fun _ _ _ => ⟨fun _ _ _ _ => by kernel_rfl, fun _ _ _ _ => by kernel_rfl⟩) (fun _ _ _ => ⟨fun _ _ _ _ => by kernel_rfl, fun _ _ _ _ => by kernel_rfl⟩) (fun _ _ _ => ⟨fun _ _ _ _ => by kernel_rfl, fun _ _ _ _ => by kernel_rfl⟩) (fun _ _ _ => ⟨fun _ _ _ _ => by kernel_rfl, fun _ _ _ _ => by kernel_rfl⟩) (fun _ _ _ => ⟨fun _ _ _ _ => by kernel_rfl, fun _ _ _ _ => by kernel_rfl⟩) (fun _ h => absurd h (by decide)) (fun h => absurd h (by decide)) (fun h => absurd h (by decide)) (fun h => absurd h (by decide)) (fun h => absurd h (by decide)) (fun h => absurd h (by decide)) (fun h => absurd h (by decide)) (fun h => absurd h (by decide)) (fun h => absurd h (by decide)) (fun h => absurd h (by decide))
theorem cuT8 : ∀ a : Nat, 1 ≤ a → a ≤ 16 → a ≤ 8 → Nat.gcd a 8 = 1 → 2 ≤ 8 → CuI 8 a ∧ CuS 8 a :=
  by16 (P := fun a => a ≤ 8 → Nat.gcd a 8 = 1 → 2 ≤ 8 → CuI 8 a ∧ CuS 8 a) (fun _ _ _ => ⟨fun _ _ _ _ => by kernel_rfl, fun _ _ _ _ => by kernel_rfl⟩) (fun _ h => absurd h (by decide)) (fun _ _ _ => ⟨fun _ _ _ _ => by kernel_rfl, fun _ _ _ _ => by kernel_rfl⟩) (fun _ h => absurd h (by decide)) (fun _ _ _ => ⟨fun _ _ _ _ => by kernel_rfl, fun _ _ _ _ => by kernel_rfl⟩) (fun _ h => absurd h (by decide)) (fun _ _ _ => ⟨fun _ _ _ _ => by kernel_rfl, fun _ _ _ _ => by kernel_rfl⟩) (fun _ h => absurd h (by decide)) (fun h => absurd h (by decide)) (fun h => absurd h (by decide)) (fun h => absurd h (by decide)) (fun h => absurd h (by decide)) (fun h => absurd h (by decide)) (fun h => absurd h (by decide)) (fun h => absurd h (by decide)) (fun h => absurd h (by decide))
theorem cuT9 : ∀ a : Nat, 1 ≤ a → a ≤ 16 → a ≤ 9 → Nat.gcd a 9 = 1 → 2 ≤ 9 → CuI 9 a ∧ CuS 9 a :=
  by16 (P := fun a => a ≤ 9 → Nat.gcd a 9 = 1 → 2 ≤ 9 → CuI 9 a ∧ CuS 9 a) (fun _ _ _ => ⟨fun _ _ _ _ => by kernel_rfl, fun _ _ _ _ => by kernel_rfl⟩) (fun _ _ _ => ⟨fun _ _ _ _ => by kernel_rfl, fun _ _ _ _ => by kernel_rfl⟩) (fun _ h => absurd h (by decide)) (fun _ _ _ => ⟨fun _ _ _ _ => by kernel_rfl, fun _ _ _ _ => by kernel_rfl⟩) (fun _ _ _ => ⟨fun _ _ _ _ => by kernel_rfl, fun _ _ _ _ => by kernel_rfl⟩) (fun _ h => absurd h (by decide)) (fun _ _ _ => ⟨fun _ _ _ _ => by kernel_rfl, fun _ _ _ _ => by kernel_rfl⟩) (fun _ _ _ => ⟨fun _ _ _ _ => by kernel_rfl, fun _ _ _ _ => by kernel_rfl⟩) (fun _ h => absurd h (by decide)) (fun h => absurd h (by decide)) (fun h => absurd h (by decide)) (fun h => absurd h (by decide)) (fun h => absurd h (by decide)) (fun h => absurd h (by decide)) (fun h => absurd h (by decide)) (fun h => absurd h (by decide))
theorem cuT10 : ∀ a : Nat, 1 ≤ a → a ≤ 16 → a ≤ 10 → Nat.gcd a 10 = 1 → 2 ≤ 10 → CuI 10 a ∧ CuS 10 a :=
  by16 (P := fun a => a ≤ 10 → Nat.gcd a 10 = 1 → 2 ≤ 10 → CuI 10 a ∧ CuS 10 a) (fun _ _ _ => ⟨fun _ _ _ _ => by kernel_rfl, fun _ _ _ _ => by kernel_rfl⟩) (fun _ h => absurd h (by decide)) (fun _ _ _ => ⟨fun _ _ _ _ => by kernel_rfl, fun _ _ _ _ => by kernel_rfl⟩) (fun _ h => absurd h (by decide)) (fun _ h => absurd h (by decide)) (fun _ h => absurd h (by decide)) (fun _ _ _ => ⟨fun _ _ _ _ => by kernel_rfl, fun _ _ _ _ => by kernel_rfl⟩) (fun _ h => absurd h (by decide)) (fun _ _ _ => ⟨fun _ _ _ _ => by kernel_rfl, fun _ _ _ _ => by kernel_rfl⟩) (fun _ h => absurd h (by decide)) (fun h => absurd h (by decide)) (fun h => absurd h (by decide)) (fun h => absurd h (by decide)) (fun h => absurd h (by decide)) (fun h => absurd h (by decide)) (fun h => absurd h (by decide))
theorem cuT11 : ∀ a : Nat, 1 ≤ a → a ≤ 16 → a ≤ 11 → Nat.gcd a 11 = 1 → 2 ≤ 11 → CuI 11 a ∧ CuS 11 a :=
  by16 (P := fun a => a ≤ 11 → Nat.gcd a 11 = 1 → 2 ≤ 11 → CuI 11 a ∧ CuS 11 a) (fun _ _ _ => ⟨fun _ _ _ _ => by kernel_rfl, fun _ _ _ _ => by kernel_rfl⟩) (fun _ _ _ => ⟨fun _ _ _ _ => by kernel_rfl, fun _ _ _ _ => by kernel_rfl⟩) (fun _ _ _ => ⟨fun _ _ _ _ => by kernel_rfl, fun _ _ _ _ => by kernel_rfl⟩) (fun _ _ _ => ⟨fun _ _ _ _ => by kernel_rfl, fun _ _ _ _ => by kernel_rfl⟩) (fun _ _ _ => ⟨fun _ _ _ _ => by kernel_rfl, fun _ _ _ _ => by kernel_rfl⟩) (fun _ _ _ => ⟨fun _ _ _ _ => by kernel_rfl, fun _ _ _ _ => by kernel_rfl⟩) (fun _ _ _ => ⟨fun _ _ _ _ => by kernel_rfl, fun _ _ _ _ => by kernel_rfl⟩) (fun _ _ _ => ⟨fun _ _ _ _ => by kernel_rfl, fun _ _ _ _ => by kernel_rfl⟩) (fun _ _ _ => ⟨fun _ _ _ _ => by kernel_rfl, fun _ _ _ _ => by kernel_rfl⟩) (fun _ _ _ => ⟨fun _ _ _ _ => by kernel_rfl, fun _ _ _ _ => by kernel_rfl⟩) (fun _ h => absurd h (by decide)) (fun h => absurd h (by decide)) (fun h => absurd h (by decide)) (fun h => absurd h (by decide)) (fun h => absurd h (by decide)) (fun h => absurd h (by decide))
theorem cuT12 : ∀ a : Nat, 1 ≤ a → a ≤ 16 → a ≤ 12 → Nat.gcd a 12 = 1 → 2 ≤ 12 → CuI 12 a ∧ CuS 12 a :=
  by16 (P := fun a => a ≤ 12 → Nat.gcd a 12 = 1 → 2 ≤ 12 → CuI 12 a ∧ CuS 12 a) (fun _ _ _ => ⟨fun _ _ _ _ => by kernel_rfl, fun _ _ _ _ => by kernel_rfl⟩) (fun _ h => absurd h (by decide)) (fun _ h => absurd h (by decide)) (fun _ h => absurd h (by decide)) (fun _ _ _ => ⟨fun _ _ _ _ => by kernel_rfl, fun _ _ _ _ => by kernel_rfl⟩) (fun _ h => absurd h (by decide)) (fun _ _ _ => ⟨fun _ _ _ _ => by kernel_rfl, fun _ _ _ _ => by kernel_rfl⟩) (fun _ h => absurd h (by decide)) (fun _ h => absurd h (by decide)) (fun _ h => absurd h (by decide)) (fun _ _ _ => ⟨fun _ _ _ _ => by kernel_rfl, fun _ _ _ _ => by kernel_rfl⟩) (fun _ h => absurd h (by decide)) (fun h => absurd h (by decide)) (fun h => absurd h (by decide)) (fun h => absurd h (by decide)) (fun h => absurd h (by decide))
theorem cuT13 : ∀ a : Nat, 1 ≤ a → a ≤ 16 → a ≤ 13 → Nat.gcd a 13 = 1 → 2 ≤ 13 → CuI 13 a ∧ CuS 13 a :=
  by16 (P := fun a => a ≤ 13 → Nat.gcd a 13 = 1 → 2 ≤ 13 → CuI 13 a ∧ CuS 13 a) (fun _ _ _ => ⟨fun _ _ _ _ => by kernel_rfl, fun _ _ _ _ => by kernel_rfl⟩) (fun _ _ _ => ⟨fun _ _ _ _ => by kernel_rfl, fun _ _ _ _ => by kernel_rfl⟩) (fun _ _ _ => ⟨fun _ _ _ _ => by kernel_rfl, fun _ _ _ _ => by kernel_rfl⟩) (fun _ _ _ => ⟨fun _ _ _ _ => by kernel_rfl, fun _ _ _ _ => by kernel_rfl⟩) (fun _ _ _ => ⟨fun _ _ _ _ => by kernel_rfl, fun _ _ _ _ => by kernel_rfl⟩) (fun _ _ _ => ⟨fun _ _ _ _ => by kernel_rfl, fun _ _ _ _ => by kernel_rfl⟩) (fun _ _ _ => ⟨fun _ _ _ _ => by kernel_rfl, fun _ _ _ _ => by kernel_rfl⟩) (fun _ _ _ => ⟨fun _ _ _ _ => by kernel_rfl, fun _ _ _ _ => by kernel_rfl⟩) (fun _ _ _ => ⟨fun _ _ _ _ => by kernel_rfl, fun _ _ _ _ => by kernel_rfl⟩) (fun _ _ _ => ⟨fun _ _ _ _ => by kernel_rfl, fun _ _ _ _ => by kernel_rfl⟩) (fun _ _ _ => ⟨fun _ _ _ _ => by kernel_rfl, fun _ _ _ _ => by kernel_rfl⟩) (fun _ _ _ => ⟨fun _ _ _ _ => by kernel_rfl, fun _ _ _ _ => by kernel_rfl⟩) (fun _ h => absurd h (by decide)) (fun h => absurd h (by decide)) (fun h => absurd h (by decide)) (fun h => absurd h (by decide))
theorem cuT14 : ∀ a : Nat, 1 ≤ a → a ≤ 16 → a ≤ 14 → Nat.gcd a 14 = 1 → 2 ≤ 14 → CuI 14 a ∧ CuS 14 a :=
  by16 (P := fun a => a ≤ 14 → Nat.gcd a 14 = 1 → 2 ≤ 14 → CuI 14 a ∧ CuS 14 a) (fun _ _ _ => ⟨fun _ _ _ _ => by kernel_rfl, fun _ _ _ _ => by kernel_rfl⟩) (fun _ h => absurd h (by decide)) (fun _ _ _ => ⟨fun _ _ _ _ => by kernel_rfl, fun _ _ _ _ => by kernel_rfl⟩) (fun _ h => absurd h (by decide)) (fun _ _ _ => ⟨fun _ _ _ _ => by kernel_rfl, fun _ _ _ _ => by kernel_rfl⟩) (fun _ h => absurd h (by decide)) (fun _ h => absurd h (by decide)) (fun _ h => absurd h (by decide)) (fun _ _ _ => ⟨fun _ _ _ _ => by kernel_rfl, fun _ _ _ _ => by kernel_rfl⟩) (fun _ h => absurd h (by decide)) (fun _ _ _ => ⟨fun _ _ _ _ => by kernel_rfl, fun _ _ _ _ => by kernel_rfl⟩) (fun _ h => absurd h (by decide)) (fun _ _ _ => ⟨fun _ _ _ _ => by kernel_rfl, fun _ _ _ _ => by kernel_rfl⟩) (fun _ h => absurd h (by decide)) (fun h => absurd h (by decide)) (fun h => absurd h (by decide))
theorem cuT15 : ∀ a : Nat, 1 ≤ a → a ≤ 16 → a ≤ 15 → Nat.gcd a 15 = 1 → 2 ≤ 15 → CuI 15 a ∧ CuS 15 a :=
  by16 (P := fun a => a ≤ 15 → Nat.gcd a 15 = 1 → 2 ≤ 15 → CuI 15 a ∧ CuS 15 a) (fun _ _ _ => ⟨fun _ _ _ _ => by kernel_rfl, fun _ _ _ _ => by kernel_rfl⟩) (fun _ _ _ => ⟨fun _ _ _ _ => by kernel_rfl, fun _ _ _ _ => by kernel_rfl⟩) (fun _ h => absurd h (by decide)) (fun _ _ _ => ⟨fun _ _ _ _ => by kernel_rfl, fun _ _ _ _ => by kernel_rfl⟩) (fun _ h => absurd h (by decide)) (fun _ h => absurd h (by decide)) (fun _ _ _ => ⟨fun _ _ _ _ => by kernel_rfl, fun _ _ _ _ => by kernel_rfl⟩) (fun _ _ _ => ⟨fun _ _ _ _ => by kernel_rfl, fun _ _ _ _ => by kernel_rfl⟩) (fun _ h => absurd h (by decide)) (fun _ h => absurd h (by decide)) (fun _ _ _ => ⟨fun _ _ _ _ => by kernel_rfl, fun _ _ _ _ => by kernel_rfl⟩) (fun _ h => absurd h (by decide)) (fun _ _ _ => ⟨fun _ _ _ _ => by kernel_rfl, fun _ _ _ _ => by kernel_rfl⟩) (fun _ _ _ => ⟨fun _ _ _ _ => by kernel_rfl, fun _ _ _ _ => by kernel_rfl⟩) (fun _ h => absurd h (by decide)) (fun h => absurd h (by decide))
theorem cuT16 : ∀ a : Nat, 1 ≤ a → a ≤ 16 → a ≤ 16 → Nat.gcd a 16 = 1 → 2 ≤ 16 → CuI 16 a ∧ CuS 16 a :=
  by16 (P := fun a => a ≤ 16 → Nat.gcd a 16 = 1 → 2 ≤ 16 → CuI 16 a ∧ CuS 16 a) (fun _ _ _ => ⟨fun _ _ _ _ => by kernel_rfl, fun _ _ _ _ => by kernel_rfl⟩) (fun _ h => absurd h (by decide)) (fun _ _ _ => ⟨fun _ _ _ _ => by kernel_rfl, fun _ _ _ _ => by kernel_rfl⟩) (fun _ h => absurd h (by decide)) (fun _ _ _ => ⟨fun _ _ _ _ => by kernel_rfl, fun _ _ _ _ => by kernel_rfl⟩) (fun _ h => absurd h (by decide)) (fun _ _ _ => ⟨fun _ _ _ _ => by kernel_rfl, fun _ _ _ _ => by kernel_rfl⟩) (fun _ h => absurd h (by decide)) (fun _ _ _ => ⟨fun _ _ _ _ => by kernel_rfl, fun _ _ _ _ => by kernel_rfl⟩) (fun _ h => absurd h (by decide)) (fun _ _ _ => ⟨fun _ _ _ _ => by kernel_rfl, fun _ _ _ _ => by kernel_rfl⟩) (fun _ h => absurd h (by decide)) (fun _ _ _ => ⟨fun _ _ _ _ => by kernel_rfl, fun _ _ _ _ => by kernel_rfl⟩) (fun _ h => absurd h (by decide)) (fun _ _ _ => ⟨fun _ _ _ _ => by kernel_rfl, fun _ _ _ _ => by kernel_rfl⟩) (fun _ h => absurd h (by decide))
theorem cu_all : ∀ n : Nat, 1 ≤ n → n ≤ 16 → ∀ a : Nat, 1 ≤ a → a ≤ 16 → a ≤ n → Nat.gcd a n = 1 → 2 ≤ n → CuI n a ∧ CuS n a :=
  by16 (P := fun n => ∀ a : Nat, 1 ≤ a → a ≤ 16 → a ≤ n → Nat.gcd a n = 1 → 2 ≤ n → CuI n a ∧ CuS n a) cuT1 cuT2 cuT3 cuT4 cuT5 cuT6 cuT7 cuT8 cuT9 cuT10 cuT11 cuT12 cuT13 cuT14 cuT15 cuT16
end Go.Proofs.Ytefdcoeidpbcjaa.F
/- Facts on Bernoulli numbers and cyclotomic units: norms of units, tables. Plain, but for the last ones. -/
namespace Go.Proofs.Ytefdcoeidpbcjaa.F
open Go.RowKit Go.Proofs.Ytefdcoeidpbcjaa.R
set_option linter.unusedVariables false
set_option linter.unusedSimpArgs false
def d1T (n : Nat) : List Int := tab (cycD n) fun m => cycW n m 1 - cycW n m 0
def qT (n : Nat) : List Int := tab (cycD n) fun m => sumF 0 n fun k => (k : Int) * cycW n m k
def d1Ok (n : Nat) : Bool := decide (n ≤ 1) || (decide (mulT n (d1T n) (qT n) = ratT n n) && (List.range (n + 1)).all fun a => decide (a = 0) || (decide (Nat.gcd a n ≠ 1) || decide (mulT n (d1T n) (cuL n a) = imN n (d1T n) a)))
theorem d1_all : ((List.range 16).all fun q => d1Ok (q + 1)) = true := by decide +kernel
theorem d1_ok {n : Nat} (h1 : 2 ≤ n) (h2 : n ≤ 16) : mulT n (d1T n) (qT n) = ratT n n ∧ ∀ a, 1 ≤ a → a ≤ n → Nat.gcd a n = 1 → mulT n (d1T n) (cuL n a) = imN n (d1T n) a := by
  have h := List.all_eq_true.1 d1_all (n - 1) (List.mem_range.2 (by omega))
  have e : n - 1 + 1 = n := by omega
  rw [e] at h
  unfold d1Ok at h
  simp only [Bool.and_eq_true, decide_eq_true_eq, List.all_eq_true, List.mem_range, Bool.or_eq_true] at h
  obtain ⟨g1, g2⟩ := h.resolve_left (by omega)
  exact ⟨g1, fun a a1 a2 a3 => ((g2 a (by omega)).resolve_left (by omega)).resolve_left (fun h => h a3)⟩
theorem prodT_rat {n : Nat} (C : CycFacts n) (c : Int) : ∀ (U : List Nat) (e : Int), prodT n (U.map fun _ => ratT n c) (ratT n e) = ratT n (e * c ^ U.length)
  | [], e => by rw [List.length_nil, Int.pow_zero, Int.mul_one]; rfl
  | a :: U, e => by
    show prodT n (U.map fun _ => ratT n c) (mulT n (ratT n e) (ratT n c)) = _
    rw [rat_rat C, prodT_rat C c U, List.length_cons, Int.pow_succ, Int.mul_assoc, Int.mul_comm c]
theorem nrm_rat {n : Nat} (h1 : 1 ≤ n) (h2 : n ≤ 16) (c : Int) : nrm n (ratT n c) = c ^ (unitsN n).length := by
  have C := cyc_facts h1 h2
  unfold nrm nrmP
  have e : ((unitsN n).map (imN n (ratT n c))) = (unitsN n).map fun _ => ratT n c := List.map_congr_left fun a _ => imN_rat C c a
  rw [e, prodT_rat C, rat_zero C, Int.one_mul]
theorem nrm_unit {n a : Nat} (h1 : 2 ≤ n) (h2 : n ≤ 16) (ha : a ∈ unitsN n) : nrm n (cuL n a) = 1 := by
  obtain ⟨⟨a1, a2⟩, a3⟩ := mem_unitsN.1 ha
  obtain ⟨g1, g2⟩ := d1_ok h1 h2
  have e1 := nrm_mul (n := n) (by omega) h2 (d1T n) (qT n)
  rw [g1, nrm_rat (by omega) h2] at e1
  have e2 := nrm_mul (n := n) (by omega) h2 (d1T n) (cuL n a)
  rw [g2 a a1 a2 a3, nrm_img (by omega) h2 _ ha] at e2
  have hne : nrm n (d1T n) ≠ 0 := by
    intro h
    rw [h, Int.zero_mul] at e1
    have := Int.pow_ne_zero (m := (unitsN n).length) (show (n : Int) ≠ 0 by omega)
    exact this e1
  exact (Int.eq_of_mul_eq_mul_left hne (by rw [Int.mul_one]; exact e2)).symm
def cu3 (n a : Int) : Int × List Int × Int := if (2 ≤ n ∧ n ≤ 16) ∧ (1 ≤ a ∧ a ≤ n) ∧ Int.gcd a n = 1 then (n, cuL n.toNat a.toNat, 0) else (0, [], 2)
theorem cuL_len (n a : Nat) : (cuL n a).length = cycD n := tab_length _ _
theorem cu3_len (n a : Int) : (cu3 n a).2.1.length ≤ 12 := by
  unfold cu3
  split
  · rename_i c
    have := le12 (n := n.toNat) (by omega) (by omega)
    show (cuL n.toNat a.toNat).length ≤ 12
    rw [cuL_len]
    omega
  · exact Nat.zero_le _
theorem cu3_norm {n a : Int} (h : (cu3 n a).2.2 = 0) (h2 : (norm2 (cu3 n a).1 (cu3 n a).2.1).2 = 0) : (norm2 (cu3 n a).1 (cu3 n a).2.1).1 = 1 := by
  obtain ⟨m, e1, m1, m2, hg, hn, _, _⟩ := norm2_zero h2
  rw [hn]
  unfold cu3 at h e1 ⊢
  split at h
  · rename_i c
    rw [if_pos c] at e1 ⊢
    obtain ⟨a, rfl⟩ : ∃ q : Nat, a = q := ⟨a.toNat, by omega⟩
    dsimp only at e1
    subst e1
    rw [Int.toNat_natCast, Int.toNat_natCast]
    exact nrm_unit (by omega) m2 (mem_unitsN.2 ⟨by omega, c.2.2⟩)
  · cases h
def btOk (p : Nat) : Bool := (List.range 21).all fun k => decide (k < 2) || (decide (k % 2 ≠ 0) || (decide (p < k + 3) || (decide ((bernT.getD k (0, 0)).2 % (p : Int) ≠ 0) && decide ((rd (bernL p (min 20 (p - 3))) k * (bernT.getD k (0, 0)).2 - (bernT.getD k (0, 0)).1) % (p : Int) = 0))))
theorem bt_all : ((List.range 62).all fun p => !isP p || btOk p) = true := by decide +kernel
theorem bernT_all : (List.range 21).all (fun k => decide (1 ≤ (bernT.getD k (0, 0)).2 ∧ (bernT.getD k (0, 0)).2 ≤ 2730) && (decide (-174611 ≤ (bernT.getD k (0, 0)).1 ∧ (bernT.getD k (0, 0)).1 ≤ 174611) && decide (k % 2 = 0 ∨ k = 1 ∨ (bernT.getD k (0, 0)).1 = 0))) = true := by decide +kernel
theorem bernT_ok {k : Nat} (h : k ≤ 20) : (1 ≤ (bernT.getD k (0, 0)).2 ∧ (bernT.getD k (0, 0)).2 ≤ 2730) ∧ (-174611 ≤ (bernT.getD k (0, 0)).1 ∧ (bernT.getD k (0, 0)).1 ≤ 174611) ∧ (k % 2 = 0 ∨ k = 1 ∨ (bernT.getD k (0, 0)).1 = 0) := by
  have g := List.all_eq_true.1 bernT_all k (List.mem_range.2 (by omega))
  simp only [Bool.and_eq_true, decide_eq_true_eq] at g
  exact ⟨g.1, g.2.1, g.2.2⟩
theorem bt_ok {p k : Nat} (hp : isP p = true) (h1 : 2 ≤ k) (h2 : k ≤ 20) (h3 : k + 3 ≤ p) (h4 : k % 2 = 0) : (bernT.getD k (0, 0)).2 % (p : Int) ≠ 0 ∧ (rd (bernL p k) k * (bernT.getD k (0, 0)).2 - (bernT.getD k (0, 0)).1) % (p : Int) = 0 := by
  obtain ⟨p1, p2⟩ := isP_bd3 hp
  have h := List.all_eq_true.1 bt_all p (List.mem_range.2 (by omega))
  rw [hp] at h
  unfold btOk at h
  simp only [Bool.not_true, Bool.false_or, List.all_eq_true, List.mem_range, Bool.or_eq_true, Bool.and_eq_true, decide_eq_true_eq] at h
  obtain ⟨g1, g2⟩ := (((h k (by omega)).resolve_left (by omega)).resolve_left (by omega)).resolve_left (by omega)
  have hpre := bernL_pre p (Nat.le_refl k) (min 20 (p - 3) - k)
  rw [show k + (min 20 (p - 3) - k) = min 20 (p - 3) by omega] at hpre
  rw [hpre] at g2
  exact ⟨g1, g2⟩
section
variable {A : Type} (z : A)
theorem cuI_eq (n a : Int) (k : Nat) (hk : 1200 ≤ k) (Φ : Int → List Int → Int → A) : impl_CyclotomicUnit z k n a Φ = Φ (cu3 n a).1 (cu3 n a).2.1 (cu3 n a).2.2 := by
  unfold cu3
  by_cases c1 : 2 ≤ n ∧ n ≤ 16
  · obtain ⟨n, rfl⟩ : ∃ q : Nat, n = q := ⟨n.toNat, by omega⟩
    by_cases c2 : (1 ≤ a ∧ a ≤ (n : Int)) ∧ Int.gcd a n = 1
    · obtain ⟨a, rfl⟩ : ∃ q : Nat, a = q := ⟨a.toNat, by omega⟩
      obtain ⟨j, rfl⟩ := le_ex (show 300 ≤ k by omega)
      rw [if_pos ⟨c1, c2⟩]
      exact (cu_all n (by omega) (by omega) a (by omega) (by omega) (by omega) c2.2 (by omega)).1 j A z Φ
    · obtain ⟨k, rfl⟩ := le_ex (show 2 ≤ k by omega)
      rw [if_neg (fun h => c2 h.2)]
      simp only [impl_CyclotomicUnit, step_succ]
      rw [within_eq, decide_eq_true c1, Bool.not_true, cond_false, isPrimeTo_eq z (by omega) (by omega) a _ (by omega), decide_eq_false c2]
      rfl
  · obtain ⟨k, rfl⟩ := le_ex (show 2 ≤ k by omega)
    rw [if_neg (fun h => c1 h.1)]
    simp only [impl_CyclotomicUnit, step_succ]
    rw [within_eq, decide_eq_false c1]
    rfl
theorem cuS_eq (n a : Int) (k : Nat) (hk : 1200 ≤ k) (Φ : Int → List Int → Int → A) : spec_CyclotomicUnit z k n a Φ = Φ (cu3 n a).1 (cu3 n a).2.1 (cu3 n a).2.2 := by
  unfold cu3
  by_cases c1 : 2 ≤ n ∧ n ≤ 16
  · obtain ⟨n, rfl⟩ : ∃ q : Nat, n = q := ⟨n.toNat, by omega⟩
    by_cases c2 : (1 ≤ a ∧ a ≤ (n : Int)) ∧ Int.gcd a n = 1
    · obtain ⟨a, rfl⟩ : ∃ q : Nat, a = q := ⟨a.toNat, by omega⟩
      obtain ⟨j, rfl⟩ := le_ex (show 300 ≤ k by omega)
      rw [if_pos ⟨c1, c2⟩]
      exact (cu_all n (by omega) (by omega) a (by omega) (by omega) (by omega) c2.2 (by omega)).2 j A z Φ
    · obtain ⟨k, rfl⟩ := le_ex (show 2 ≤ k by omega)
      rw [if_neg (fun h => c2 h.2)]
      simp only [spec_CyclotomicUnit, step_succ]
      rw [in_eq, decide_eq_true c1, Bool.not_true, cond_false, in_eq]
      by_cases c3 : 1 ≤ a ∧ a ≤ (n : Int)
      · rw [decide_eq_true c3, Bool.not_true, cond_false, sgcd_eq z (by omega) (by omega) _ (by omega), if_pos (fun h => c2 ⟨c3, by omega⟩)]
      · rw [decide_eq_false c3]
        rfl
  · obtain ⟨k, rfl⟩ := le_ex (show 2 ≤ k by omega)
    rw [if_neg (fun h => c1 h.1)]
    simp only [spec_CyclotomicUnit, step_succ]
    rw [in_eq, decide_eq_false c1]
    rfl
end
end Go.Proofs.Ytefdcoeidpbcjaa.F
/- The law of Bernoulli numbers, whole. -/
namespace Go.Proofs.Ytefdcoeidpbcjaa.F
open Go.RowKit Go.Proofs.Ytefdcoeidpbcjaa.R
set_option linter.unusedVariables false
set_option linter.unusedSimpArgs false
section
variable {A : Type} (z : A)
theorem prime08_eq {c : List Int} {i : Int} (hs : Src c i) (h : Int) : ∃ i' h', ∃ p : Nat, (Src c i' ∧ p ≤ 1000) ∧ ∀ k, 10 ≤ k → ∀ Φ : List Int → Int → Int → Int → A, spec_l08Prime z k c i h Φ = Φ c i' h' (p : Int) := by
  obtain ⟨i1, h1, v, ⟨s1, _⟩, e1⟩ := next_eq z hs h 30
  by_cases c0 : v = 0
  · obtain ⟨i2, h2, w, ⟨s2, hw⟩, e2⟩ := pick_eq z s1 h1 [2, 15, 67] (by simp)
    have hw : w = (w.toNat : Int) ∧ w.toNat ≤ 1000 := by
      simp only [List.mem_cons, List.not_mem_nil, or_false] at hw
      omega
    refine ⟨i2, h2, w.toNat, ⟨s2, hw.2⟩, fun k hk Φ => ?_⟩
    obtain ⟨k, rfl⟩ := le_ex (show 2 ≤ k by omega)
    simp only [spec_l08Prime, spec_l06Primes, step_succ]
    rw [e1 _ (by omega), if_pos c0, e2 _ (by omega), ← hw.1]
  · obtain ⟨i2, h2, w, ⟨s2, hw⟩, e2⟩ := pick_eq z s1 h1 [6, 17] (by simp)
    have hw : 1 ≤ w ∧ w ≤ 17 := by
      simp only [List.mem_cons, List.not_mem_nil, or_false] at hw
      omega
    obtain ⟨i3, h3, u, ⟨s3, u0, u1, _⟩, e3⟩ := next_eq z s2 h2 w
    have u1 := u1 hw.1
    obtain ⟨u, rfl⟩ : ∃ q : Nat, u = q := ⟨u.toNat, by omega⟩
    have hu : u < ([3, 5, 7, 11, 13, 17, 19, 23, 29, 31, 37, 41, 43, 47, 53, 59, 61] : List Int).length := by
      show u < 17
      omega
    have hm : ([3, 5, 7, 11, 13, 17, 19, 23, 29, 31, 37, 41, 43, 47, 53, 59, 61] : List Int).getD u 0 ∈ ([3, 5, 7, 11, 13, 17, 19, 23, 29, 31, 37, 41, 43, 47, 53, 59, 61] : List Int) := by rw [getD_at hu]; exact List.getElem_mem _
    have hv : ([3, 5, 7, 11, 13, 17, 19, 23, 29, 31, 37, 41, 43, 47, 53, 59, 61] : List Int).getD u 0 = ((([3, 5, 7, 11, 13, 17, 19, 23, 29, 31, 37, 41, 43, 47, 53, 59, 61] : List Int).getD u 0).toNat : Int) ∧ (([3, 5, 7, 11, 13, 17, 19, 23, 29, 31, 37, 41, 43, 47, 53, 59, 61] : List Int).getD u 0).toNat ≤ 1000 := by
      generalize ([3, 5, 7, 11, 13, 17, 19, 23, 29, 31, 37, 41, 43, 47, 53, 59, 61] : List Int).getD u 0 = v at hm
      simp only [List.mem_cons, List.not_mem_nil, or_false] at hm
      omega
    refine ⟨i3, h3, (([3, 5, 7, 11, 13, 17, 19, 23, 29, 31, 37, 41, 43, 47, 53, 59, 61] : List Int).getD u 0).toNat, ⟨s3, hv.2⟩, fun k hk Φ => ?_⟩
    obtain ⟨k, rfl⟩ := le_ex (show 2 ≤ k by omega)
    simp only [spec_l08Prime, spec_l06Primes, step_succ]
    rw [e1 _ (by omega), if_neg c0, e2 _ (by omega), e3 _ (by omega), inI_at z hu, ← hv.1]
theorem drawBern_eq {c : List Int} (hc : c.length ≤ 4096) (hb : ∀ x ∈ c, 0 ≤ x ∧ x ≤ 255) : ∃ n, ∀ k, 5000 ≤ k → ∀ Φ : Int → A, spec_DrawBernoulliOf z k c Φ = Φ n := by
  obtain ⟨h, i, s, e⟩ := from_eq z hc hb
  obtain ⟨i1, h1, v, _, e1⟩ := next_eq z s h 22
  refine ⟨v, fun k hk Φ => ?_⟩
  obtain ⟨k, rfl⟩ := le_ex (show 1 ≤ k by omega)
  simp only [spec_DrawBernoulliOf, step_succ]
  rw [e _ (by omega), e1 _ (by omega)]
theorem drawBM_eq {c : List Int} (hc : c.length ≤ 4096) (hb : ∀ x ∈ c, 0 ≤ x ∧ x ≤ 255) : ∃ p : Nat, ∃ m, p ≤ 1000 ∧ ∀ k, 5000 ≤ k → ∀ Φ : Int → Int → A, spec_DrawBernoulliModulo z k c Φ = Φ (p : Int) m := by
  obtain ⟨h, i, s, e⟩ := from_eq z hc hb
  obtain ⟨i1, h1, p, ⟨s1, hp⟩, e1⟩ := prime08_eq z s h
  obtain ⟨i2, h2, v, ⟨s2, _⟩, e2⟩ := next_eq z s1 h1 (maxI (w64 ((p : Int).tdiv 2)) 1)
  obtain ⟨i3, h3, u, _, e3⟩ := next_eq z s2 h2 12
  refine ⟨p, w64 ((w64 (2 * v)) + (w64 (u.tdiv 11))), hp, fun k hk Φ => ?_⟩
  obtain ⟨k, rfl⟩ := le_ex (show 1 ≤ k by omega)
  simp only [spec_DrawBernoulliModulo, step_succ]
  rw [e _ (by omega), e1 _ (by omega), e2 _ (by omega), e3 _ (by omega)]
theorem drawIrr_eq {c : List Int} (hc : c.length ≤ 4096) (hb : ∀ x ∈ c, 0 ≤ x ∧ x ≤ 255) : ∃ p : Nat, p ≤ 1000 ∧ ∀ k, 5000 ≤ k → ∀ Φ : Int → A, spec_DrawIrregularOf z k c Φ = Φ (p : Int) := by
  obtain ⟨h, i, s, e⟩ := from_eq z hc hb
  obtain ⟨i1, h1, p, ⟨s1, hp⟩, e1⟩ := prime08_eq z s h
  obtain ⟨i2, h2, q, ⟨s2, hq⟩, e2⟩ := prime08_eq z s1 h1
  obtain ⟨i3, h3, w, ⟨s3, hw⟩, e3⟩ := pick_eq z s2 h2 [37, 59, (p : Int), (q : Int)] (by simp)
  have hw : w = (w.toNat : Int) ∧ w.toNat ≤ 1000 := by
    simp only [List.mem_cons, List.not_mem_nil, or_false] at hw
    omega
  refine ⟨w.toNat, hw.2, fun k hk Φ => ?_⟩
  obtain ⟨k, rfl⟩ := le_ex (show 1 ≤ k by omega)
  simp only [spec_DrawIrregularOf, step_succ]
  rw [e _ (by omega), e1 _ (by omega), e2 _ (by omega), e3 _ (by omega), ← hw.1]
theorem drawCU_eq {c : List Int} (hc : c.length ≤ 4096) (hb : ∀ x ∈ c, 0 ≤ x ∧ x ≤ 255) : ∃ n a, ∀ k, 5000 ≤ k → ∀ Φ : Int → Int → A, spec_DrawCyclotomicUnit z k c Φ = Φ n a := by
  obtain ⟨h, i, s, e⟩ := from_eq z hc hb
  obtain ⟨i1, h1, n, ⟨s1, _⟩, e1⟩ := drawOrder_eq z s h
  obtain ⟨i2, h2, v, ⟨s2, _⟩, e2⟩ := next_eq z s1 h1 40
  obtain ⟨i3, h3, u, _, e3⟩ := next_eq z s2 h2 (w64 (w64 (n + w64 ((w64 (v.tdiv 39)) * 20)) + 2))
  refine ⟨w64 (n + w64 ((w64 (v.tdiv 39)) * 20)), u, fun k hk Φ => ?_⟩
  obtain ⟨k, rfl⟩ := le_ex (show 1 ≤ k by omega)
  simp only [spec_DrawCyclotomicUnit, step_succ]
  rw [e _ (by omega), e1 _ (by omega), e2 _ (by omega), e3 _ (by omega)]
theorem bern3_code {n : Int} (h : (bern3 n).2.2 = 0) : ∃ m : Nat, n = m ∧ m ≤ 20 ∧ (bern3 n).1 = (bernT.getD m (0, 0)).1 ∧ (bern3 n).2.1 = (bernT.getD m (0, 0)).2 := by
  unfold bern3 at h ⊢
  split at h
  · rename_i c
    rw [if_pos c]
    exact ⟨n.toNat, by omega, by omega, rfl, rfl⟩
  · cases h
theorem bern3_not {n : Int} (h : ¬ (bern3 n).2.2 = 0) : (bern3 n).1 = 0 ∧ (bern3 n).2.1 = 0 := by
  unfold bern3 at h ⊢
  split at h
  · exact absurd rfl h
  · rename_i c
    rw [if_neg c]
    exact ⟨rfl, rfl⟩
theorem law_g43 (n : Int) {K0 : Bool → A} (k : Nat) (hk : 1 ≤ k) : laws_FnBernoulli.g43 z k n (bern3 n).1 (bern3 n).2.1 (bern3 n).2.2 K0 = K0 true := by
  obtain ⟨k, rfl⟩ := le_ex hk
  rw [laws_FnBernoulli.g43]
  by_cases c : (bern3 n).2.2 = 0
  · obtain ⟨m, rfl, m1, e1, e2⟩ := bern3_code c
    obtain ⟨⟨b1, b2⟩, b3, b4⟩ := bernT_ok m1
    rw [if_neg (fun h => h c), e1, e2, if_pos (by omega), show (2 : Int) = ((2 : Nat) : Int) from rfl, tmodN]
    by_cases c2 : m % 2 = 0
    · rw [if_pos (by omega)]
    · rw [if_neg (by omega)]
      by_cases c3 : m = 1
      · rw [if_pos (by omega)]
      · rw [if_neg (by omega), decide_eq_true (by omega)]
  · obtain ⟨e1, e2⟩ := bern3_not c
    rw [if_pos c, if_pos e1, decide_eq_true e2]
theorem bm2_zero {p : Nat} {m : Int} (h : (bm2 p m).2 = 0) : ∃ q : Nat, m = q ∧ isP p = true ∧ 2 ≤ q ∧ q + 3 ≤ p ∧ q % 2 = 0 ∧ (bm2 p m).1 = rd (bernL p q) q := by
  unfold bm2 at h ⊢
  split at h
  · rename_i c
    rw [if_pos c]
    refine ⟨m.toNat, by omega, c.1, by omega, by omega, by omega, ?_⟩
    rw [Int.toNat_of_nonneg (by omega)]
  · cases h
theorem law_g33 (n : Int) (p : Nat) (m : Int) {K0 : Bool → A} (k : Nat) (hk : 500 ≤ k) : laws_FnBernoulli.g33 z k n (bern3 n).1 (bern3 n).2.1 (bern3 n).2.2 (p : Int) m (bm2 p m).1 (bm2 p m).2 K0 = K0 true := by
  obtain ⟨k, rfl⟩ := le_ex (show 1 ≤ k by omega)
  rw [laws_FnBernoulli.g33]
  by_cases c : (bm2 p m).2 = 0
  · obtain ⟨q, rfl, hp, q1, q2, q3, e⟩ := bm2_zero c
    rw [if_pos c]
    by_cases c2 : (q : Int) ≤ 20
    · obtain ⟨p1, p2⟩ := isP_bd3 hp
      have e3 : bern3 (q : Int) = ((bernT.getD q (0, 0)).1, (bernT.getD q (0, 0)).2, 0) := by
        unfold bern3
        rw [if_pos (by omega), Int.toNat_natCast]
      obtain ⟨t1, t2⟩ := bt_ok hp q1 (by omega) q2 q3
      obtain ⟨⟨b1, b2⟩, b3, b4⟩ := bernT_ok (k := q) (by omega)
      obtain ⟨r1, r2⟩ := bernL_bd (p := p) (by omega) q q (Nat.le_refl _)
      have mb := mul_le (a := rd (bernL p q) q) (b := (bernT.getD q (0, 0)).2) (A := 61) (B := 2730) (by omega) (by omega)
      rw [if_pos c2, bernI_eq z (q : Int) k (by omega), e3, e]
      dsimp only
      rw [if_neg (fun h => h rfl), gd_ok z (by omega), Int.tmod_eq_emod_of_nonneg (a := (bernT.getD q (0, 0)).2) (by omega), if_neg t1, gd_ok z (by omega), gd_ok z (by omega), w64_id (x := rd (bernL p q) q * _) (by omega) (by omega), round_eq (by omega) (by omega) (by omega), t2, if_neg (fun h => h rfl), law_g43 z n k (by omega)]
    · rw [if_neg c2, law_g43 z n k (by omega)]
  · rw [if_neg c, law_g43 z n k (by omega)]
theorem law_g36 {p : Nat} (hp : p ≤ 1000) {l : List Int} (hl : l.length ≤ 1000) (h : ∀ x ∈ l, bm2 p x = (0, 0)) {K0 : Bool → A} {K1 : A} : ∀ (d i k : Nat), i + d = l.length → d + 1200 ≤ k →
    laws_FnBernoulli.g36 z k (p : Int) (i : Int) l K0 K1 = K1
  | d, i, 0, _, hk => absurd hk (by omega)
  | 0, i, k + 1, hi, hk => by
    rw [laws_FnBernoulli.g36, if_neg (by omega)]
  | d + 1, i, k + 1, hi, hk => by
    have hq : i < l.length := by omega
    have hm := h _ (show l.getD i 0 ∈ l by rw [getD_at hq]; exact List.getElem_mem _)
    rw [laws_FnBernoulli.g36, if_pos (by omega), inI_at z hq, bmI_eq z hp _ k (by omega), hm, if_neg (fun h => h rfl), if_neg (fun h => h rfl), w64_up (by omega), law_g36 hp hl h d (i + 1) k (by omega) (by omega)]
theorem irr2_zero {p : Nat} : (irr2 p).1.length ≤ 1000 ∧ ∀ x ∈ (irr2 p).1, bm2 p x = (0, 0) := by
  unfold irr2
  split
  · rename_i hp
    obtain ⟨p1, p2⟩ := isP_bd3 hp
    refine ⟨?_, fun x hx => ?_⟩
    · have := irrF_len (bernL p (p - 3)) (p - 2) 0
      show (irrF (bernL p (p - 3)) (p - 2) 0).length ≤ 1000
      omega
    · obtain ⟨q, rfl, q1, q2, q3, q4⟩ := mem_irrF _ _ hx
      have hpre := bernL_pre p (Nat.le_refl q) (p - 3 - q)
      rw [show q + (p - 3 - q) = p - 3 by omega, q3] at hpre
      unfold bm2
      rw [if_pos ⟨hp, ⟨by omega, by omega⟩, by omega⟩, Int.toNat_natCast, ← hpre]
  · exact ⟨Nat.zero_le _, fun x hx => by cases hx⟩
theorem law_g28 (n : Int) (p : Nat) (m : Int) {q : Nat} (hq : q ≤ 1000) {K0 : Bool → A} (k : Nat) (hk : 2500 ≤ k) : laws_FnBernoulli.g28 z k n (bern3 n).1 (bern3 n).2.1 (bern3 n).2.2 (p : Int) m (bm2 p m).1 (bm2 p m).2 (q : Int) (irr2 q).2 (irr2 q).1 K0 = K0 true := by
  obtain ⟨k, rfl⟩ := le_ex (show 1 ≤ k by omega)
  obtain ⟨a1, a2⟩ := irr2_zero (p := q)
  rw [laws_FnBernoulli.g28]
  by_cases c : (irr2 q).2 = 0
  · rw [if_pos c]
    refine Eq.trans (law_g36 z hq a1 a2 (irr2 q).1.length 0 k (by omega) (by omega)) ?_
    exact law_g33 z n p m k (by omega)
  · rw [if_neg c, law_g33 z n p m k (by omega)]
theorem cyclo9_eq {a b : List Int} (ha : a.length ≤ 1000000) (m n : Int) (k : Nat) (hk : a.length + 3 ≤ k) (Φ : Bool → A) : laws_cyclo9 z k m a n b Φ = Φ (decide (m = n ∧ a = b)) := by
  obtain ⟨k, rfl, hk⟩ := up hk
  simp only [laws_cyclo9, step_succ]
  by_cases hm : m = n
  · rw [if_pos hm, like_eq z ha k (by omega)]
    simp [hm]
  · rw [if_neg hm, decide_eq_false (fun e => hm e.1)]
/-- The law answers true. -/
theorem law_eq {c : List Int} (hb : ∀ x ∈ c, 0 ≤ x ∧ x ≤ 255) (k : Nat) (hk : 6003 ≤ k) (Φ : Bool → A) : laws_FnBernoulli z k c Φ = Φ true := by
  obtain ⟨k, rfl⟩ := le_ex (show 3 ≤ k by omega)
  simp only [laws_FnBernoulli, laws_big, step_succ]
  by_cases hc : c.length ≤ 4096
  · obtain ⟨n, e1⟩ := drawBern_eq z hc hb
    obtain ⟨p, m, hp, e2⟩ := drawBM_eq z hc hb
    obtain ⟨q, hq, e3⟩ := drawIrr_eq z hc hb
    obtain ⟨u, a, e4⟩ := drawCU_eq z hc hb
    have l1 := (irr2_zero (p := q)).1
    have l2 := cu3_len u a
    have G := law_g28 z n p m hq (K0 := Φ) (k + 2) (by omega)
    rw [decide_eq_false (by omega), cond_false, e1 _ (by omega), bernI_eq z n _ (by omega), bernS_eq z n _ (by omega), if_neg (fun h => h rfl), if_neg (fun h => h rfl), if_neg (fun h => h rfl), e2 _ (by omega), bmI_eq z hp m _ (by omega), bmS_eq z hp m _ (by omega), if_neg (fun h => h rfl), if_neg (fun h => h rfl), e3 _ (by omega), irrI_eq z hq _ (by omega), irrS_eq z hq _ (by omega), if_neg (fun h => h rfl), like_eq z (by omega) _ (by omega), decide_eq_true rfl, Bool.not_true, cond_false, e4 _ (by omega), cuI_eq z u a _ (by omega), cuS_eq z u a _ (by omega), if_neg (fun h => h rfl), cyclo9_eq z (by omega) _ _ _ (by omega), decide_eq_true ⟨rfl, rfl⟩, Bool.not_true, cond_false]
    by_cases c0 : (cu3 u a).2.2 = 0
    · rw [if_pos c0]
      simp only [impl_IsUnit, impl_size, step_succ]
      rw [normOf_eq z _ (by omega) _ (by omega)]
      by_cases c1 : (norm2 (cu3 u a).1 (cu3 u a).2.1).2 = 0
      · rw [if_pos c1, cu3_norm c0 c1]
        refine Eq.trans ?_ G
        rfl
      · rw [if_neg c1]
        exact G
    · rw [if_neg c0]
      exact G
  · rw [decide_eq_true (by omega), cond_true]
end
end Go.Proofs.Ytefdcoeidpbcjaa.F
