/- Facts on what the printed functions tell. -/
import Derived.Test.YtbgbokflmekhmaaGreatZF1
import Derived.Test.YtbgbokflmekhmaaGreatZV
/- Facts on the printed functions of the first layer: ranges, divisors, totients, lists. -/
namespace Go.Proofs.YtbgbokflmekhmaaGreat.F
open Go.RowKit Go.Proofs.YtbgbokflmekhmaaGreat.R
set_option linter.unusedVariables false
set_option linter.unusedSimpArgs false
theorem by16 {P : Nat → Prop} (h1 : P 1) (h2 : P 2) (h3 : P 3) (h4 : P 4) (h5 : P 5) (h6 : P 6) (h7 : P 7) (h8 : P 8) (h9 : P 9) (h10 : P 10) (h11 : P 11) (h12 : P 12) (h13 : P 13) (h14 : P 14) (h15 : P 15) (h16 : P 16) : ∀ n : Nat, 1 ≤ n → n ≤ 16 → P n
  | 1, _, _ => h1 | 2, _, _ => h2 | 3, _, _ => h3 | 4, _, _ => h4 | 5, _, _ => h5 | 6, _, _ => h6 | 7, _, _ => h7 | 8, _, _ => h8
  | 9, _, _ => h9 | 10, _, _ => h10 | 11, _, _ => h11 | 12, _, _ => h12 | 13, _, _ => h13 | 14, _, _ => h14 | 15, _, _ => h15 | 16, _, _ => h16
  | 0, h, _ => absurd h (by omega)
  | n + 17, _, h => absurd h (by omega)
theorem le_ex {K k : Nat} (h : K ≤ k) : ∃ j, k = j + K := ⟨k - K, by omega⟩
theorem tmod_lt {a n : Int} (hn : 1 ≤ n) : -n < Int.tmod a n ∧ Int.tmod a n < n := ⟨Int.lt_tmod_of_pos a (by omega), Int.tmod_lt_of_pos a (by omega)⟩
theorem tmod_emod (a n : Int) : Int.tmod a n % n = a % n := by
  rw [Int.tmod_def, Int.sub_mul_emod_self_left]
theorem tmod_zero {a n : Int} : Int.tmod a n = 0 ↔ a % n = 0 := by
  rw [← Int.dvd_iff_tmod_eq_zero, Int.dvd_iff_emod_eq_zero]
section
variable {A : Type} (z : A)
theorem within_eq (k : Nat) (a lo hi : Int) (Φ : Bool → A) : impl_within z (k + 1) a lo hi Φ = Φ (decide (lo ≤ a ∧ a ≤ hi)) := by
  simp only [impl_within, step_succ]
  by_cases h : lo ≤ a <;> simp [h]
theorem in_eq (k : Nat) (a lo hi : Int) (Φ : Bool → A) : spec_l01In z (k + 1) a lo hi Φ = Φ (decide (lo ≤ a ∧ a ≤ hi)) := by
  simp only [spec_l01In, step_succ]
  by_cases h : lo ≤ a <;> simp [h]
theorem isOrder_eq (k : Nat) (n : Int) (Φ : Bool → A) : impl_isOrder z (k + 2) n Φ = Φ (decide (1 ≤ n ∧ n ≤ 16)) := by
  simp only [impl_isOrder, step_succ, within_eq]
theorem around_eq (k : Nat) {a n : Int} (hn : 1 ≤ n) (hn2 : n ≤ 1000000) (Φ : Int → A) : impl_around z (k + 1) a n Φ = Φ (a % n) := by
  obtain ⟨a0, a1⟩ := tmod_lt (a := a) hn
  simp only [impl_around, step_succ]
  rw [gd_ok z (by omega), gd_ok z (by omega), w64_id (by omega) (by omega), Int.tmod_eq_emod_of_nonneg (by omega), Int.add_emod_right, tmod_emod]
/-! divisors -/
theorem igcd_g {K0 : Int → A} : ∀ (d k : Nat) (a b : Int), 0 ≤ a → 0 ≤ b → b.toNat ≤ d → d < k → impl_gcd.g3 z k a b K0 = K0 (Int.gcd a b)
  | d, 0, a, b, _, _, _, hk => absurd hk (by omega)
  | d, k + 1, a, b, ha, hb, hd, hk => by
    rw [impl_gcd.g3]
    by_cases h : 0 < b
    · have h1 := Int.tmod_lt_of_pos a h
      have h2 := Int.tmod_nonneg b ha
      rw [if_pos h, gd_ok z (by omega)]
      cases d with
      | zero => omega
      | succ d => rw [igcd_g d k b _ hb h2 (by omega) (by omega), gcd_tmod a b ha h]
    · have : b = 0 := by omega
      subst this
      rw [if_neg h, Int.gcd_zero_right, Int.natAbs_of_nonneg ha]
theorem size_eq (k : Nat) {a : Int} (h : -9223372036854775808 < a ∧ a ≤ 9223372036854775807) (Φ : Int → A) : impl_size z (k + 1) a Φ = Φ (a.natAbs : Int) := by
  simp only [impl_size, step_succ]
  rw [w64_id (by omega) (by omega)]
  congr 1
  unfold maxI
  split <;> omega
theorem igcd_eq {a b : Int} (ha : -9223372036854775808 < a ∧ a ≤ 9223372036854775807) (hb : -9223372036854775808 < b ∧ b ≤ 9223372036854775807) (k : Nat) (hk : b.natAbs + 2 ≤ k) (Φ : Int → A) : impl_gcd z k a b Φ = Φ (Int.gcd a b) := by
  obtain ⟨j, rfl, hj⟩ := up hk
  obtain ⟨i, rfl, hi⟩ := up hj
  simp only [impl_gcd, step_succ]
  rw [size_eq z i ha, size_eq z i hb, igcd_g z b.natAbs (i + 1) _ _ (by omega) (by omega) (by omega) (by omega)]
  simp [Int.gcd]
theorem sgcd_g {K0 : Int → A} : ∀ (d k : Nat) (a b : Int), 0 ≤ a → 0 ≤ b → b.toNat ≤ d → d < k → spec_l01Gcd.g2 z k a b K0 = K0 (Int.gcd a b)
  | d, 0, a, b, _, _, _, hk => absurd hk (by omega)
  | d, k + 1, a, b, ha, hb, hd, hk => by
    rw [spec_l01Gcd.g2]
    by_cases h : b ≠ 0
    · have hp : 0 < b := by omega
      have h1 := Int.tmod_lt_of_pos a hp
      have h2 := Int.tmod_nonneg b ha
      rw [if_pos h, gd_ok z h]
      cases d with
      | zero => omega
      | succ d => rw [sgcd_g d k b _ hb h2 (by omega) (by omega), gcd_tmod a b ha hp]
    · have : b = 0 := by omega
      subst this
      rw [if_neg h, Int.gcd_zero_right, Int.natAbs_of_nonneg ha]
theorem sgcd_eq {a b : Int} (ha : 0 ≤ a ∧ a ≤ 9223372036854775807) (hb : 0 ≤ b ∧ b ≤ 9223372036854775807) (k : Nat) (hk : b.natAbs + 2 ≤ k) (Φ : Int → A) : spec_l01Gcd z k a b Φ = Φ (Int.gcd a b) := by
  obtain ⟨j, rfl, hj⟩ := up hk
  simp only [spec_l01Gcd, step_succ]
  rw [sgcd_g z b.natAbs j _ _ ha.1 hb.1 (by omega) (by omega)]
  have hg : (Int.gcd a b : Int) ≤ 9223372036854775807 := by
    unfold Int.gcd
    rcases Nat.eq_zero_or_pos a.natAbs with h | h
    · rw [h, Nat.gcd_zero_left]; omega
    · have := Nat.gcd_le_left b.natAbs h; omega
  rw [w64_id (by omega) (by omega)]
  congr 1
  unfold maxI
  split <;> omega
end
/-! tables -/
theorem totient_tab : ∀ n : Nat, 1 ≤ n → n ≤ 16 → ∀ (j : Nat) (A : Type) (z : A) (Φ : Int → A), impl_totient z (j + 60) (n : Int) Φ = Φ (cycD n : Int) :=
  by16 (fun _ _ _ _ => by kernel_rfl) (fun _ _ _ _ => by kernel_rfl) (fun _ _ _ _ => by kernel_rfl) (fun _ _ _ _ => by kernel_rfl) (fun _ _ _ _ => by kernel_rfl) (fun _ _ _ _ => by kernel_rfl) (fun _ _ _ _ => by kernel_rfl) (fun _ _ _ _ => by kernel_rfl) (fun _ _ _ _ => by kernel_rfl) (fun _ _ _ _ => by kernel_rfl) (fun _ _ _ _ => by kernel_rfl) (fun _ _ _ _ => by kernel_rfl) (fun _ _ _ _ => by kernel_rfl) (fun _ _ _ _ => by kernel_rfl) (fun _ _ _ _ => by kernel_rfl) (fun _ _ _ _ => by kernel_rfl)
theorem phi_tab : ∀ n : Nat, 1 ≤ n → n ≤ 16 → ∀ (j : Nat) (A : Type) (z : A) (Φ : Int → A), spec_l01Phi z (j + 60) (n : Int) Φ = Φ (cycD n : Int) :=
  by16 (fun _ _ _ _ => by kernel_rfl) (fun _ _ _ _ => by kernel_rfl) (fun _ _ _ _ => by kernel_rfl) (fun _ _ _ _ => by kernel_rfl) (fun _ _ _ _ => by kernel_rfl) (fun _ _ _ _ => by kernel_rfl) (fun _ _ _ _ => by kernel_rfl) (fun _ _ _ _ => by kernel_rfl) (fun _ _ _ _ => by kernel_rfl) (fun _ _ _ _ => by kernel_rfl) (fun _ _ _ _ => by kernel_rfl) (fun _ _ _ _ => by kernel_rfl) (fun _ _ _ _ => by kernel_rfl) (fun _ _ _ _ => by kernel_rfl) (fun _ _ _ _ => by kernel_rfl) (fun _ _ _ _ => by kernel_rfl)
theorem cyclo_tab : ∀ n : Nat, 1 ≤ n → n ≤ 16 → ∀ (j : Nat) (A : Type) (z : A) (Φ : List Int → A), spec_l01Cyclotomic z (j + 200) (n : Int) Φ = Φ (cycF n) :=
  by16 (fun _ _ _ _ => by kernel_rfl) (fun _ _ _ _ => by kernel_rfl) (fun _ _ _ _ => by kernel_rfl) (fun _ _ _ _ => by kernel_rfl) (fun _ _ _ _ => by kernel_rfl) (fun _ _ _ _ => by kernel_rfl) (fun _ _ _ _ => by kernel_rfl) (fun _ _ _ _ => by kernel_rfl) (fun _ _ _ _ => by kernel_rfl) (fun _ _ _ _ => by kernel_rfl) (fun _ _ _ _ => by kernel_rfl) (fun _ _ _ _ => by kernel_rfl) (fun _ _ _ _ => by kernel_rfl) (fun _ _ _ _ => by kernel_rfl) (fun _ _ _ _ => by kernel_rfl) (fun _ _ _ _ => by kernel_rfl)
theorem field_tab : ∀ n : Nat, 1 ≤ n → n ≤ 16 → ∀ (j : Nat) (A : Type) (z : A) (Φ : Int → Int → List (List Int) → A), impl_fieldOf z (j + 200) (n : Int) Φ = Φ n (cycD n : Int) (cycP n) :=
  by16 (fun _ _ _ _ => by kernel_rfl) (fun _ _ _ _ => by kernel_rfl) (fun _ _ _ _ => by kernel_rfl) (fun _ _ _ _ => by kernel_rfl) (fun _ _ _ _ => by kernel_rfl) (fun _ _ _ _ => by kernel_rfl) (fun _ _ _ _ => by kernel_rfl) (fun _ _ _ _ => by kernel_rfl) (fun _ _ _ _ => by kernel_rfl) (fun _ _ _ _ => by kernel_rfl) (fun _ _ _ _ => by kernel_rfl) (fun _ _ _ _ => by kernel_rfl) (fun _ _ _ _ => by kernel_rfl) (fun _ _ _ _ => by kernel_rfl) (fun _ _ _ _ => by kernel_rfl) (fun _ _ _ _ => by kernel_rfl)
section
variable {A : Type} (z : A) {n : Nat} (h1 : 1 ≤ n) (h2 : n ≤ 16)
include h1 h2
theorem totient_eq (k : Nat) (hk : 60 ≤ k) (Φ : Int → A) : impl_totient z k (n : Int) Φ = Φ (cycD n : Int) := by
  obtain ⟨j, rfl⟩ := le_ex hk
  exact totient_tab n h1 h2 j A z Φ
theorem phi_eq (k : Nat) (hk : 60 ≤ k) (Φ : Int → A) : spec_l01Phi z k (n : Int) Φ = Φ (cycD n : Int) := by
  obtain ⟨j, rfl⟩ := le_ex hk
  exact phi_tab n h1 h2 j A z Φ
theorem cyclo_eq (k : Nat) (hk : 200 ≤ k) (Φ : List Int → A) : spec_l01Cyclotomic z k (n : Int) Φ = Φ (cycF n) := by
  obtain ⟨j, rfl⟩ := le_ex hk
  exact cyclo_tab n h1 h2 j A z Φ
theorem field_eq (k : Nat) (hk : 200 ≤ k) (Φ : Int → Int → List (List Int) → A) : impl_fieldOf z k (n : Int) Φ = Φ n (cycD n : Int) (cycP n) := by
  obtain ⟨j, rfl⟩ := le_ex hk
  exact field_tab n h1 h2 j A z Φ
end
end Go.Proofs.YtbgbokflmekhmaaGreat.F
/- Facts on the printed functions of the first layer: what is told of lists. -/
namespace Go.Proofs.YtbgbokflmekhmaaGreat.F
open Go.RowKit Go.Proofs.YtbgbokflmekhmaaGreat.R
set_option linter.unusedVariables false
set_option linter.unusedSimpArgs false
def smallB (B : Int) (l : List Int) : Bool := l.all fun x => decide (-B ≤ x ∧ x ≤ B)
theorem small_one (l : List Int) : smallB 1000000000 l = smallL l := rfl
theorem w64_up {i : Nat} (h : i < 2000000) : w64 ((i : Int) + 1) = ((i + 1 : Nat) : Int) := by rw [w64_id (by omega) (by omega)]; omega
theorem getD_at {l : List Int} {i : Nat} (h : i < l.length) : l.getD i 0 = l[i] := by simp [List.getD_eq_getElem?_getD, h]
theorem drop_cons {l : List Int} {i : Nat} (h : i < l.length) : l.drop i = l.getD i 0 :: l.drop (i + 1) := by
  rw [getD_at h]; exact List.drop_eq_getElem_cons h
section
variable {A : Type} (z : A)
theorem index_g {l : List Int} (hl : l.length ≤ 1100000) {B : Int} (hB : 0 ≤ B ∧ B ≤ 1000000000) {K0 : Int → A} {K1 Kt : A} (hK : ∀ i : Nat, K0 (i : Int) = Kt) : ∀ (d i k : Nat), i + d = l.length → d + 4 ≤ k →
    slices_IndexFunc_Sint64_int64_c96.g3 z k l B (l.length : Int) (i : Int) K0 K1 = bif smallB B (l.drop i) then K1 else Kt
  | d, i, 0, _, hk => absurd hk (by omega)
  | 0, i, k + 1, hi, hk => by
    rw [slices_IndexFunc_Sint64_int64_c96.g3, if_neg (by omega), List.drop_eq_nil_of_le (by omega)]
    rfl
  | d + 1, i, k + 1, hi, hk => by
    obtain ⟨j, rfl, hj⟩ := up (show d + 3 + 1 ≤ k by omega)
    obtain ⟨m, rfl, hm⟩ := up hj
    have hlt : i < l.length := by omega
    rw [slices_IndexFunc_Sint64_int64_c96.g3, if_pos (by omega), inI_at z hlt]
    simp only [impl_areSmall_1, step_succ]
    rw [w64_id (by omega) (by omega), within_eq, drop_cons hlt]
    simp only [smallB, List.all_cons]
    by_cases h : 0 - B ≤ l.getD i 0 ∧ l.getD i 0 ≤ B
    · rw [decide_eq_true h, decide_eq_true (show -B ≤ l.getD i 0 ∧ l.getD i 0 ≤ B by omega), Bool.not_true, cond_false, w64_up (by omega), Bool.true_and]
      exact index_g hl hB hK d (i + 1) (m + 1 + 1) (by omega) (by omega)
    · rw [decide_eq_false h, decide_eq_false (show ¬ (-B ≤ l.getD i 0 ∧ l.getD i 0 ≤ B) by omega), Bool.not_false, cond_true, Bool.false_and, cond_false]
      exact hK i
theorem areSmall_eq {l : List Int} (hl : l.length ≤ 1100000) {B : Int} (hB : 0 ≤ B ∧ B ≤ 1000000000) (k : Nat) (hk : l.length + 8 ≤ k) (Φ : Bool → A) : impl_areSmall z k l B Φ = Φ (smallB B l) := by
  obtain ⟨k, rfl⟩ := le_ex (show 3 ≤ k by omega)
  simp only [impl_areSmall, slices_ContainsFunc_Sint64_int64_c96, slices_IndexFunc_Sint64_int64_c96, step_succ]
  have h := index_g z hl hB (K0 := fun v1 => Φ (!decide (0 ≤ v1))) (K1 := Φ (!decide ((0 : Int) ≤ -1))) (Kt := Φ false) (fun i => by rw [decide_eq_true (show (0 : Int) ≤ (i : Int) by omega), Bool.not_true]) l.length 0 k (by omega) (by omega)
  rw [List.drop_zero] at h
  refine Eq.trans h ?_
  cases smallB B l <;> rfl
theorem cycloOf_eq {l : List Int} (hl : l.length ≤ 1100000) (n : Int) (k : Nat) (hk : l.length + 9 ≤ k) (Φ : Int → List Int → Int → A) : impl_cycloOf z k n l Φ = bif smallL l then Φ n l 0 else Φ 0 [] 3 := by
  obtain ⟨k, rfl, hk⟩ := up hk
  simp only [impl_cycloOf, step_succ]
  rw [areSmall_eq z hl (by omega) k (by omega), small_one]
  cases smallL l <;> rfl
/-- Lists alike. -/
theorem like_g {a b : List Int} (ha : a.length ≤ 1100000) (hab : a.length = b.length) {K0 : Bool → A} {K1 : A} : ∀ (d i k : Nat), i + d = a.length → d + 1 ≤ k →
    laws_likeInts.g6 z k a b (i : Int) K0 K1 = bif decide (a.drop i = b.drop i) then K1 else K0 false
  | d, i, 0, _, hk => absurd hk (by omega)
  | 0, i, k + 1, hi, hk => by
    rw [laws_likeInts.g6, if_neg (by omega), List.drop_eq_nil_of_le (by omega), List.drop_eq_nil_of_le (by omega)]
    rfl
  | d + 1, i, k + 1, hi, hk => by
    have hlt : i < a.length := by omega
    rw [laws_likeInts.g6, if_pos (by omega), inI_at z hlt, inI_at z (show i < b.length by omega), drop_cons hlt, drop_cons (show i < b.length by omega)]
    by_cases h : a.getD i 0 = b.getD i 0
    · rw [if_neg (by simpa using h), w64_up (by omega), like_g ha hab d (i + 1) k (by omega) (by omega), h]
      simp
    · rw [if_pos (by simpa using h), decide_eq_false (by simp only [List.cons.injEq]; exact fun e => h e.1), cond_false]
theorem like_eq {a b : List Int} (ha : a.length ≤ 1100000) (k : Nat) (hk : a.length + 2 ≤ k) (Φ : Bool → A) : laws_likeInts z k a b Φ = Φ (decide (a = b)) := by
  obtain ⟨k, rfl, hk⟩ := up hk
  simp only [laws_likeInts, step_succ]
  by_cases h : a.length = b.length
  · rw [if_neg (by omega)]
    have h := like_g z ha h (K0 := Φ) (K1 := Φ true) a.length 0 k (by omega) (by omega)
    rw [List.drop_zero, List.drop_zero] at h
    refine Eq.trans h ?_
    cases decide (a = b) <;> rfl
  · rw [if_pos (by omega), decide_eq_false (fun e => h (by rw [e]))]
theorem cyclos5_eq {a b : List Int} (ha : a.length ≤ 1100000) (m n : Int) (k : Nat) (hk : a.length + 3 ≤ k) (Φ : Bool → A) : laws_cyclos5 z k m a n b Φ = Φ (decide (m = n ∧ a = b)) := by
  obtain ⟨k, rfl, hk⟩ := up hk
  simp only [laws_cyclos5, step_succ]
  by_cases hm : m = n
  · rw [if_pos hm, like_eq z ha k (by omega)]
    simp [hm]
  · rw [if_neg hm, decide_eq_false (fun e => hm e.1)]
end
end Go.Proofs.YtbgbokflmekhmaaGreat.F
/- Facts on the printed functions of the first layer: numbers of a field, reduced, turned, lifted. -/
namespace Go.Proofs.YtbgbokflmekhmaaGreat.F
open Go.RowKit Go.Proofs.YtbgbokflmekhmaaGreat.R
set_option linter.unusedVariables false
set_option linter.unusedSimpArgs false
def isC (n : Int) (l : List Int) : Bool := decide (1 ≤ n ∧ n ≤ 16) && (decide (l.length = cycD n.toNat) && smallL l)
theorem isC_len {n : Int} {l : List Int} (h : isC n l = true) : (∃ m : Nat, n = m ∧ 1 ≤ m ∧ m ≤ 16 ∧ l.length = cycD m) ∧ smallL l = true := by
  simp only [isC, Bool.and_eq_true, decide_eq_true_eq] at h
  exact ⟨⟨n.toNat, by omega, by omega, by omega, h.2.1⟩, h.2.2⟩
theorem le12 {n : Nat} (h1 : 1 ≤ n) (h2 : n ≤ 16) : cycD n ≤ 12 := (cyc_facts h1 h2).le12
section
variable {A : Type} (z : A)
theorem isCyclo_eq (n : Int) {l : List Int} (hl : l.length ≤ 1100000) (k : Nat) (hk : l.length + 70 ≤ k) (Φ : Bool → A) : impl_IsCyclo z k n l Φ = Φ (isC n l) := by
  obtain ⟨k, rfl⟩ := le_ex (show 3 ≤ k by omega)
  simp only [impl_IsCyclo, step_succ]
  rw [isOrder_eq]
  by_cases h : 1 ≤ n ∧ n ≤ 16
  · obtain ⟨m, rfl⟩ : ∃ m : Nat, n = m := ⟨n.toNat, by omega⟩
    rw [decide_eq_true h, cond_true, totient_eq z (by omega) (by omega) _ (by omega)]
    simp only [isC, Int.toNat_natCast, decide_eq_true h, Bool.true_and]
    by_cases hd : l.length = cycD m
    · rw [if_pos (by omega), areSmall_eq z hl (by omega) _ (by omega), decide_eq_true hd, Bool.true_and, small_one]
    · rw [if_neg (by omega), decide_eq_false hd, Bool.false_and]
  · rw [decide_eq_false h, cond_false]
    simp only [isC, decide_eq_false h, Bool.false_and]
def codeC (m : Int) (a : List Int) (n : Int) (b : List Int) : Int := bif isC m a && isC n b then (if m = n then 0 else 2) else 1
theorem twoCode_eq (m n : Int) {a b : List Int} (ha : a.length ≤ 1100000) (hb : b.length ≤ 1100000) (k : Nat) (hk : a.length + b.length + 71 ≤ k) (Φ : Int → A) : impl_twoCode z k m a n b Φ = Φ (codeC m a n b) := by
  obtain ⟨k, rfl, hk⟩ := up hk
  simp only [impl_twoCode, step_succ]
  rw [isCyclo_eq z m ha k (by omega), isCyclo_eq z n hb k (by omega)]
  unfold codeC
  cases isC m a <;> cases isC n b <;> simp
  split <;> simp_all
theorem own_eq {l : List Int} (hl : l.length ≤ 1100000) (k : Nat) (hk : 1 ≤ k) (Φ : List Int → A) : spec_l01Own z k l Φ = Φ l := by
  obtain ⟨k, rfl, hk⟩ := up (K := 0) hk
  simp only [spec_l01Own, step_succ]
  rw [apI_ok z (by omega), List.nil_append]
theorem clone_eq {l : List Int} (hl : l.length ≤ 1100000) (k : Nat) (hk : 1 ≤ k) (Φ : List Int → A) : slices_Clone_Sint64_int64 z k l Φ = Φ l := by
  obtain ⟨k, rfl, hk⟩ := up (K := 0) hk
  simp only [slices_Clone_Sint64_int64, step_succ]
  rw [apI_ok z (by omega)]
theorem zero01_eq {n : Nat} (h1 : 1 ≤ n) (h2 : n ≤ 16) (k : Nat) (hk : 61 ≤ k) (Φ : Int → List Int → A) : spec_l01Zero z k n Φ = Φ n (List.replicate (cycD n) 0) := by
  obtain ⟨k, rfl, hk⟩ := up hk
  have := le12 h1 h2
  simp only [spec_l01Zero, step_succ]
  rw [phi_eq z h1 h2 _ (by omega), mkI_at z (by omega)]
/-! reduced -/
theorem red_g11 {F : List Int} {D : Nat} (hF : F.length = D + 1) (v : Int) {x : Nat} (hD : D ≤ x) {K0 : List Int → A} : ∀ (d c k : Nat) (L : List Int), c + d = D + 1 → x < L.length → L.length ≤ 1000 → d + 1 ≤ k →
    spec_l01Reduce.g11 z k (D : Int) (x : Int) v (c : Int) F L K0 = K0 (redIn F v (x - D) d c L)
  | d, c, 0, L, _, _, _, hk => absurd hk (by omega)
  | 0, c, k + 1, L, hc, hx, hl, hk => by
    rw [spec_l01Reduce.g11, if_neg (by omega)]
    rfl
  | d + 1, c, k + 1, L, hc, hx, hl, hk => by
    have e : w64 (w64 ((x : Int) - (D : Int)) + (c : Int)) = ((x - D + c : Nat) : Int) := by
      rw [w64_id (x := (x : Int) - D) (by omega) (by omega), w64_id (by omega) (by omega)]; omega
    rw [spec_l01Reduce.g11, if_pos (by omega), e, inI_at z (by omega), inI_at z (by omega), inI_at z (by omega), w64_up (by omega), red_g11 hF v hD d (c + 1) k _ (by omega) (by rw [List.length_set]; omega) (by rw [List.length_set]; omega) (by omega)]
    rfl
theorem redIn_length (F : List Int) (v : Int) (p : Nat) : ∀ (d c : Nat) (L : List Int), (redIn F v p d c L).length = L.length
  | 0, c, L => rfl
  | d + 1, c, L => by unfold redIn; rw [redIn_length F v p d, List.length_set]
theorem redOut_length (F : List Int) (D : Nat) : ∀ (x : Nat) (L : List Int), (redOut F D x L).length = L.length
  | 0, L => rfl
  | x + 1, L => by
    unfold redOut
    by_cases h : D ≤ x
    · rw [if_pos h, redOut_length F D x, redIn_length]
    · rw [if_neg h]
theorem red_g5 {F : List Int} {D : Nat} (h1 : 1 ≤ D) (hF : F.length = D + 1) {K0 : List Int → A} : ∀ (x k : Nat) (L : List Int), x ≤ L.length → L.length ≤ 1000 → x + D + 4 ≤ k →
    spec_l01Reduce.g5 z k (D : Int) ((x : Int) - 1) F L K0 = K0 (redOut F D x L)
  | x, 0, L, _, _, hk => absurd hk (by omega)
  | 0, k + 1, L, hx, hl, hk => by
    rw [spec_l01Reduce.g5, if_neg (by omega)]
    rfl
  | x + 1, k + 1, L, hx, hl, hk => by
    rw [show ((x + 1 : Nat) : Int) - 1 = (x : Int) by omega, spec_l01Reduce.g5]
    unfold redOut
    by_cases hD : D ≤ x
    · rw [if_pos (by omega), if_pos hD, inI_at z (by omega)]
      refine Eq.trans (red_g11 z hF _ hD (D + 1) 0 k L (by omega) (by omega) hl (by omega)) ?_
      rw [w64_id (by omega) (by omega), red_g5 h1 hF x k _ (by rw [redIn_length]; omega) (by rw [redIn_length]; omega) (by omega)]
      rfl
    · rw [if_neg (by omega), if_neg hD]
theorem red_g18 {R : List Int} {D : Nat} (hD : D ≤ 1000) (hR : R.length ≤ 1000) {K0 : List Int → A} : ∀ (d m k : Nat), m + d = D → d + 1 ≤ k →
    spec_l01Reduce.g18 z k (D : Int) (m : Int) R (tab D fun j => if j < m then rd R j else 0) K0 = K0 (tab D fun j => rd R j)
  | d, m, 0, _, hk => absurd hk (by omega)
  | 0, m, k + 1, hm, hk => by
    rw [spec_l01Reduce.g18, if_neg (by omega), show (tab D fun j => if j < m then rd R j else 0) = tab D fun j => rd R j from tab_congr (fun j hj => if_pos (by omega))]
  | d + 1, m, k + 1, hm, hk => by
    rw [spec_l01Reduce.g18, if_pos (by omega)]
    by_cases hr : m < R.length
    · rw [if_pos (by omega), inI_at z hr, inI_at z (by rw [tab_length]; omega), w64_up (by omega), tab_set]
      have e : (tab D fun j => if m = j then R.getD m 0 else if j < m then rd R j else 0) = tab D fun j => if j < m + 1 then rd R j else 0 := tab_congr (fun j hj => by
        by_cases c : m = j
        · subst c; rw [if_pos rfl, if_pos (by omega)]; rfl
        · rw [if_neg c]
          by_cases c2 : j < m
          · rw [if_pos c2, if_pos (by omega)]
          · rw [if_neg c2, if_neg (by omega)])
      rw [e, red_g18 hD hR d (m + 1) k (by omega) (by omega)]
    · rw [if_neg (by omega), show (tab D fun j => if j < m then rd R j else 0) = tab D fun j => rd R j from tab_congr (fun j hj => by
        by_cases c : j < m
        · rw [if_pos c]
        · rw [if_neg c, rd_out R j (by omega)])]
theorem reduce_eq {n : Nat} (h1 : 1 ≤ n) (h2 : n ≤ 16) {L : List Int} (hl : L.length ≤ 1000) (hw : Wrapped L) (k : Nat) (hk : L.length + 220 ≤ k) (Φ : Int → List Int → A) :
    spec_l01Reduce z k (n : Int) L Φ = Φ n (tab (cycD n) fun m => wrap64 (dot L (cycW n m))) := by
  obtain ⟨k, rfl, hk⟩ := up hk
  have C := cyc_facts h1 h2
  have := C.le12
  have := C.pos
  simp only [spec_l01Reduce, step_succ]
  rw [cyclo_eq z h1 h2 _ (by omega), own_eq z (by omega) _ (by omega), C.lenF, w64_id (x := ((cycD n + 1 : Nat) : Int) - 1) (by omega) (by omega), w64_id (x := (L.length : Int) - 1) (by omega) (by omega), show ((cycD n + 1 : Nat) : Int) - 1 = (cycD n : Int) by omega]
  rw [red_g5 z (by omega) C.lenF L.length k L (Nat.le_refl _) hl (by omega), zero01_eq z h1 h2 _ (by omega), tab_zero, show (tab (cycD n) fun _ => (0 : Int)) = tab (cycD n) fun j => if j < 0 then rd (redOut (cycF n) (cycD n) L.length L) j else 0 from tab_congr (fun j _ => (if_neg (by omega)).symm)]
  refine Eq.trans (red_g18 z (by omega) (by rw [redOut_length]; omega) (cycD n) 0 k (by omega) (by omega)) ?_
  rw [show (tab (cycD n) fun j => rd (redOut (cycF n) (cycD n) L.length L) j) = tab (cycD n) fun m => wrap64 (dot L (cycW n m)) from tab_congr (fun j hj => redL_rd C h1 L hw j hj)]
end
end Go.Proofs.YtbgbokflmekhmaaGreat.F
/- Facts on the printed functions of the first layer: images, lifts, sums. -/
namespace Go.Proofs.YtbgbokflmekhmaaGreat.F
open Go.RowKit Go.Proofs.YtbgbokflmekhmaaGreat.R
set_option linter.unusedVariables false
set_option linter.unusedSimpArgs false
theorem mul_bd {i : Nat} {a : Int} (hi : i ≤ 100) (ha : -1000 ≤ a ∧ a ≤ 1000) : -1000000 ≤ (i : Int) * a ∧ (i : Int) * a ≤ 1000000 := by
  have := mul_le (a := (i : Int)) (b := a) (A := 1000) (B := 1000) (by omega) ha
  omega
theorem round_eq {v : Int} {n : Nat} (hv : -1000000 ≤ v ∧ v ≤ 1000000) (h1 : 1 ≤ n) (h2 : n ≤ 1000) : Int.tmod (w64 (Int.tmod (w64 v) n + n)) n = v % n := by
  obtain ⟨a0, a1⟩ := tmod_lt (a := v) (n := n) (by omega)
  rw [w64_id (x := v) (by omega) (by omega), w64_id (by omega) (by omega), Int.tmod_eq_emod_of_nonneg (by omega), Int.add_emod_right, tmod_emod]
theorem mod_nat (v : Int) {n : Nat} (h1 : 1 ≤ n) : v % n = (((v % n).toNat : Nat) : Int) ∧ (v % n).toNat < n := by
  have q0 := Int.emod_nonneg v (b := n) (by omega)
  have q1 := Int.emod_lt_of_pos v (b := n) (by omega)
  exact ⟨by omega, by omega⟩
section
variable {A : Type} (z : A)
theorem with178_in {row : List Int} (hr : row.length ≤ 1000) (v : Int) {K0 : List Int → A} : ∀ (d c k : Nat) (o : List Int), c + d = row.length → o.length = row.length → d + 1 ≤ k →
    impl_field_with_c86.g10 z k v row (row.length : Int) (c : Int) o K0 = K0 (addIn row v 0 d c o)
  | d, c, 0, o, _, _, hk => absurd hk (by omega)
  | 0, c, k + 1, o, hc, ho, hk => by
    rw [impl_field_with_c86.g10, if_neg (by omega)]
    rfl
  | d + 1, c, k + 1, o, hc, ho, hk => by
    rw [impl_field_with_c86.g10, if_pos (by omega), inI_at z (by omega), inI_at z (by omega), inI_at z (by omega), w64_up (by omega), with178_in hr v d (c + 1) k _ (by omega) (by rw [List.length_set]; exact ho) (by omega)]
    rw [show addIn row v 0 (d + 1) c o = addIn row v 0 d (c + 1) (o.set c (w64 (o.getD c 0 + w64 (v * row.getD c 0)))) by rw [addIn, Nat.zero_add]; rfl]
theorem with178_g {n : Nat} (h1 : 1 ≤ n) (h2 : n ≤ 16) {x : List Int} (hx : x.length ≤ 100) {a : Int} {q : Nat → Nat}
    (hq : ∀ i : Nat, i < x.length → q i < n ∧ ∀ k (K0 : Int → A), (impl_field_image_1 z (k + 1) (i : Int) a fun v3 => impl_around z (k + 1) v3 (n : Int) K0) = K0 (q i : Int)) {K0 : List Int → A} : ∀ (d i k : Nat) (o : List Int), i + d = x.length → o.length = cycD n → d + 20 ≤ k →
    impl_field_with_c86.g4 z k (n : Int) (cycP n) a x (x.length : Int) (i : Int) o K0 = K0 (imIn n x q d i o)
  | d, i, 0, o, _, _, hk => absurd hk (by omega)
  | 0, i, k + 1, o, hi, ho, hk => by
    rw [impl_field_with_c86.g4, if_neg (by omega)]
    rfl
  | d + 1, i, k + 1, o, hi, ho, hk => by
    obtain ⟨q1, q2⟩ := hq i (by omega)
    have C := cyc_facts h1 h2
    obtain ⟨r1, r2, r3⟩ := cycRow_facts C h1 q1
    have := C.le12
    obtain ⟨j, rfl, hj⟩ := up (show d + 19 + 1 ≤ k by omega)
    rw [impl_field_with_c86.g4, if_pos (by omega), inI_at z (by omega), q2, inI_at z (by rw [C.lenP]; omega), w64_up (by omega)]
    refine Eq.trans (with178_in z (row := cycRow n (q i)) (by omega) _ (cycRow n (q i)).length 0 (j + 1) o (by omega) (by omega) (by omega)) ?_
    rw [r1]
    have hl := (addIn_length (cycRow n (q i)) (rd x i) 0 (cycD n) 0 o).trans ho
    exact with178_g h1 h2 hx hq d (i + 1) (j + 1) _ (by omega) hl (by omega)
theorem image_eq {n : Nat} (h1 : 1 ≤ n) (h2 : n ≤ 16) {x : List Int} (hx : x.length ≤ 100) {a : Int} (ha : -1000 ≤ a ∧ a ≤ 1000) (k : Nat) (hk : 130 ≤ k) (Φ : List Int → A) :
    impl_field_image z k (n : Int) (cycD n : Int) (cycP n) x a Φ = Φ (imT n x a) := by
  obtain ⟨k, rfl⟩ := le_ex (show 2 ≤ k by omega)
  have := le12 h1 h2
  simp only [impl_field_image, impl_field_with_c86, step_succ]
  rw [mkI_at z (by omega)]
  refine Eq.trans (with178_g z h1 h2 hx (q := fun i => (((i : Int) * a) % n).toNat) (fun i hi => ⟨(mod_nat _ h1).2, fun k K0 => ?_⟩) x.length 0 k _ (by omega) (by simp) (by omega)) ?_
  · simp only [impl_field_image_1, step_succ]
    have hm := mul_bd (i := i) (by omega) ha
    rw [Int.mul_comm a, w64_id (by omega) (by omega), around_eq z _ (by omega) (by omega)]
    exact congrArg _ (mod_nat _ h1).1
  · rw [imIn_tab (cyc_facts h1 h2) h1 x _ fun j hj => (mod_nat _ h1).2]
    rfl
end
end Go.Proofs.YtbgbokflmekhmaaGreat.F
/- Facts on the printed functions of the first layer: products, with sums that may be great. -/
namespace Go.Proofs.YtbgbokflmekhmaaGreat.F
open Go.RowKit Go.Proofs.YtbgbokflmekhmaaGreat.R
set_option linter.unusedVariables false
set_option linter.unusedSimpArgs false
/-- The sums stand at T, of at most c numbers each. -/
def Sums (D : Nat) (o : List (Int × Nat)) (T : Nat → Int) (c : Nat) : Prop := o.length = D ∧ ∀ j, j < D → (o.getD j (0, 0)).1 = w64 (T j) ∧ Near (o.getD j (0, 0)).2 (T j) c ∧ (T j).natAbs ≤ 16000000000000000000 * c
theorem Near.more {b : Nat} {T : Int} {c c' : Nat} (h : Near b T c) (e : c ≤ c') : Near b T c' := by
  obtain ⟨n, h1, h2⟩ := h
  exact ⟨n, h1, Nat.le_trans h2 (Nat.mul_le_mul_right _ e)⟩
theorem Sums.more {D : Nat} {o : List (Int × Nat)} {T : Nat → Int} {c c' : Nat} (h : Sums D o T c) (e : c ≤ c') : Sums D o T c' :=
  ⟨h.1, fun j hj => by obtain ⟨h1, h2, h3⟩ := h.2 j hj; exact ⟨h1, h2.more e, Nat.le_trans h3 (Nat.mul_le_mul_left _ e)⟩⟩
theorem Sums.congr {D : Nat} {o : List (Int × Nat)} {T S : Nat → Int} {c : Nat} (h : Sums D o T c) (e : ∀ j, j < D → T j = S j) : Sums D o S c :=
  ⟨h.1, fun j hj => by rw [← e j hj]; exact h.2 j hj⟩
theorem sums_zero (D : Nat) : Sums D (List.replicate D ((0 : Int), (0 : Nat))) (fun _ => 0) 0 :=
  ⟨by simp, fun j hj => by
    have : (List.replicate D ((0 : Int), (0 : Nat))).getD j (0, 0) = (0, 0) := by simp [List.getD_eq_getElem?_getD, hj]
    rw [this]
    exact ⟨rfl, near_zero, by simp⟩⟩
theorem w64_cg (a b : Int) : w64 (w64 a + w64 b) = w64 (a + b) := ((Cg.wrap a).add (Cg.wrap b)).eq
/-- One number more at one place. -/
theorem sumAdd {D : Nat} {o : List (Int × Nat)} {T : Nat → Int} {c : Nat} (h : Sums D o T c) (hc : c ≤ 200000) {m : Nat} (hm : m < D) {X Y : Nat} (hXY : X ≤ 16000000000 ∧ Y ≤ 16000000000 ∧ X * Y ≤ 16000000000000000000) {x y : Int} (hx : x.natAbs ≤ X) (hy : y.natAbs ≤ Y) :
    ∃ s, (∀ (A : Type) (z : A) (k : Nat) (Φ : Int → Nat → A), impl_sum_add z (k + 1) (o.getD m (0, 0)).1 (o.getD m (0, 0)).2 x y Φ = Φ (w64 (T m + x * y)) s) ∧
      Sums D (o.set m (w64 (T m + x * y), s)) (fun j => if m = j then T j + x * y else T j) (c + 1) := by
  obtain ⟨h1, h2, h3⟩ := h.2 m hm
  have hxy : (x * y).natAbs ≤ 16000000000000000000 := by
    rw [Int.natAbs_mul]
    exact Nat.le_trans (Nat.mul_le_mul hx hy) hXY.2.2
  obtain ⟨p, s, e1, e2, e3⟩ := near_add h2 (x := x) (y := y) (by omega) (by omega) (by omega) (by omega) (by omega)
  refine ⟨s, fun A z k Φ => ?_, by rw [List.length_set]; exact h.1, fun j hj => ?_⟩
  · simp only [impl_sum_add, step_succ]
    rw [e1]
    simp only [optN]
    rw [e2]
    simp only []
    rw [h1, w64_cg]
  · by_cases e : m = j
    · subst e
      have : (o.set m (w64 (T m + x * y), s)).getD m (0, 0) = (w64 (T m + x * y), s) := by
        simp [List.getD_eq_getElem?_getD, List.getElem?_set, h.1, hm]
      rw [this]
      dsimp only
      rw [if_pos rfl]
      exact ⟨rfl, e3, by omega⟩
    · have : (o.set m (w64 (T m + x * y), s)).getD j (0, 0) = o.getD j (0, 0) := by
        simp [List.getD_eq_getElem?_getD, List.getElem?_set, e]
      rw [this]
      dsimp only
      rw [if_neg e]
      obtain ⟨g1, g2, g3⟩ := h.2 j hj
      exact ⟨g1, g2.more (by omega), by omega⟩
/-- A row of a power, times a product. -/
theorem prod15 {D : Nat} {row : List Int} (hr : row.length = D) (hD : D ≤ 12) (hrow : ∀ j : Nat, j < D → -1 ≤ rd row j ∧ rd row j ≤ 1) {X Y : Nat} (hXY : X ≤ 16000000000 ∧ Y ≤ 16000000000 ∧ X * Y ≤ 16000000000000000000) {x y : Int} (hx : x.natAbs ≤ X) (hy : y.natAbs ≤ Y) :
    ∀ (d m : Nat) (o : List (Int × Nat)) (T : Nat → Int) (c : Nat), m + d = D → c + d ≤ 200000 → Sums D o T c →
    ∃ o', (∀ (A : Type) (z : A) (k : Nat) (K0 : List (Int × Nat) → A), d + 3 ≤ k → impl_field_product.g15 z k x y row (row.length : Int) (m : Int) o K0 = K0 o') ∧ Sums D o' (fun j => if m ≤ j then T j + rd row j * x * y else T j) (c + d)
  | 0, m, o, T, c, hm, hc, hs => by
    refine ⟨o, fun A z k K0 hk => ?_, hs.congr fun j hj => by rw [if_neg (by omega)]⟩
    obtain ⟨k, rfl, _⟩ := up (show 2 + 1 ≤ k by omega)
    rw [impl_field_product.g15, if_neg (by omega)]
  | d + 1, m, o, T, c, hm, hc, hs => by
    have hmD : m < D := by omega
    have hro := hrow m hmD
    by_cases h0 : rd row m = 0
    · obtain ⟨o', h1, h2⟩ := prod15 hr hD hrow hXY hx hy d (m + 1) o T c (by omega) (by omega) hs
      refine ⟨o', fun A z k K0 hk => ?_, (h2.more (by omega)).congr fun j hj => ?_⟩
      · obtain ⟨k, rfl, _⟩ := up (show d + 3 + 1 ≤ k by omega)
        have h0' : row.getD m 0 = 0 := h0
        rw [impl_field_product.g15, if_pos (by omega), inI_at z (by omega), if_neg (by simpa using h0'), w64_up (by omega)]
        exact h1 A z k K0 (by omega)
      · by_cases c1 : m + 1 ≤ j
        · rw [if_pos c1, if_pos (by omega)]
        · rw [if_neg c1]
          by_cases c2 : m ≤ j
          · have : j = m := by omega
            subst this
            rw [if_pos c2, h0, Int.zero_mul, Int.zero_mul, Int.add_zero]
          · rw [if_neg c2]
    · have hnx : (rd row m * x).natAbs ≤ X := by
        rcases (show rd row m = 1 ∨ rd row m = -1 by omega) with e | e <;> rw [e] <;> omega
      obtain ⟨s, e1, e2⟩ := sumAdd hs (by omega) hmD hXY hnx hy
      obtain ⟨o', h1, h2⟩ := prod15 hr hD hrow hXY hx hy d (m + 1) _ _ (c + 1) (by omega) (by omega) e2
      refine ⟨o', fun A z k K0 hk => ?_, (h2.more (by omega)).congr fun j hj => ?_⟩
      · obtain ⟨k, rfl, _⟩ := up (show d + 3 + 1 ≤ k by omega)
        obtain ⟨i, rfl, _⟩ := up (show d + 2 + 1 ≤ k by omega)
        have h0' : row.getD m 0 ≠ 0 := h0
        have hw : w64 (row.getD m 0 * x) = rd row m * x := w64_id (x := rd row m * x) (by omega) (by omega)
        rw [impl_field_product.g15, if_pos (by omega), inI_at z (by omega), if_pos h0', inI_at z (by rw [hs.1]; omega), hw, e1, w64_up (by omega)]
        exact h1 A z (i + 1) K0 (by omega)
      · by_cases c1 : m + 1 ≤ j
        · rw [if_pos c1, if_neg (show ¬ m = j by omega), if_pos (show m ≤ j by omega)]
        · rw [if_neg c1]
          by_cases c2 : m ≤ j
          · have : j = m := by omega
            subst this
            rw [if_pos rfl, if_pos c2]
          · rw [if_neg (show ¬ m = j by omega), if_neg c2]
theorem prod7 {n : Nat} (h1 : 1 ≤ n) (h2 : n ≤ 16) {i : Nat} (hi : i ≤ 1000) {X Y : Nat} (hXY : X ≤ 16000000000 ∧ Y ≤ 16000000000 ∧ X * Y ≤ 16000000000000000000) {x : Int} (hx : x.natAbs ≤ X) {y : List Int} (hy : ∀ q : Nat, q < y.length → (rd y q).natAbs ≤ Y) (hyl : y.length ≤ 1000) :
    ∀ (d m : Nat) (o : List (Int × Nat)) (T : Nat → Int) (c : Nat), m + d = y.length → c + 12 * d ≤ 200000 → Sums (cycD n) o T c →
    ∃ o', (∀ (A : Type) (z : A) (k : Nat) (K0 : List (Int × Nat) → A), d + 20 ≤ k → impl_field_product.g7 z k (n : Int) (cycP n) (i : Int) x y (y.length : Int) (m : Int) o K0 = K0 o') ∧
      Sums (cycD n) o' (fun j => T j + x * sumF m d (fun q => rd y q * cycW n j (i + q))) (c + 12 * d)
  | 0, m, o, T, c, hm, hc, hs => by
    refine ⟨o, fun A z k K0 hk => ?_, hs.congr fun j hj => by simp [sumF]⟩
    obtain ⟨k, rfl, _⟩ := up (show 19 + 1 ≤ k by omega)
    rw [impl_field_product.g7, if_neg (by omega)]
  | d + 1, m, o, T, c, hm, hc, hs => by
    have hml : m < y.length := by omega
    have C := cyc_facts h1 h2
    have hlt : (i + m) % n < n := Nat.mod_lt _ (by omega)
    obtain ⟨r1, r2, r3⟩ := cycRow_facts C h1 hlt
    have skip : x * rd y m = 0 → (∀ (A : Type) (z : A) (k : Nat) (K0 : List (Int × Nat) → A), d + 20 + 1 ≤ k + 1 → impl_field_product.g7 z (k + 1) (n : Int) (cycP n) (i : Int) x y (y.length : Int) (m : Int) o K0 = impl_field_product.g7 z k (n : Int) (cycP n) (i : Int) x y (y.length : Int) ((m + 1 : Nat) : Int) o K0) →
        ∃ o', (∀ (A : Type) (z : A) (k : Nat) (K0 : List (Int × Nat) → A), d + 1 + 20 ≤ k → impl_field_product.g7 z k (n : Int) (cycP n) (i : Int) x y (y.length : Int) (m : Int) o K0 = K0 o') ∧
          Sums (cycD n) o' (fun j => T j + x * sumF m (d + 1) (fun q => rd y q * cycW n j (i + q))) (c + 12 * (d + 1)) := by
      intro h0 hstep
      obtain ⟨o', g1, g2⟩ := prod7 h1 h2 hi hXY hx hy hyl d (m + 1) o T c (by omega) (by omega) hs
      refine ⟨o', fun A z k K0 hk => ?_, (g2.more (by omega)).congr fun j hj => ?_⟩
      · obtain ⟨k, rfl, _⟩ := up (show d + 20 + 1 ≤ k by omega)
        rw [hstep A z k K0 (by omega)]
        exact g1 A z k K0 (by omega)
      · rw [sumF, Int.mul_add, ← Int.mul_assoc x, h0, Int.zero_mul, Int.zero_add]
    by_cases hx0 : x = 0
    · refine skip (by rw [hx0, Int.zero_mul]) fun A z k K0 hk => ?_
      rw [impl_field_product.g7, if_pos (by omega), inI_at z hml, if_pos hx0, w64_up (by omega)]
    by_cases hy0 : rd y m = 0
    · refine skip (by rw [hy0, Int.mul_zero]) fun A z k K0 hk => ?_
      have hy0' : y.getD m 0 = 0 := hy0
      rw [impl_field_product.g7, if_pos (by omega), inI_at z hml, if_neg hx0, if_pos hy0', w64_up (by omega)]
    obtain ⟨o1, e1, e2⟩ := prod15 (row := cycRow n ((i + m) % n)) r1 C.le12 (fun j hj => by
      rw [rd_nat _ _ (by omega)]
      exact r2 _ (List.getElem_mem _)) hXY hx (hy m hml) (cycD n) 0 o T c (by omega) (by have := C.le12; omega) hs
    obtain ⟨o', g1, g2⟩ := prod7 h1 h2 hi hXY hx hy hyl d (m + 1) o1 _ (c + 12) (by omega) (by omega) (e2.more (by have := C.le12; omega))
    refine ⟨o', fun A z k K0 hk => ?_, (g2.more (by omega)).congr fun j hj => ?_⟩
    · obtain ⟨k, rfl, _⟩ := up (show d + 20 + 1 ≤ k by omega)
      have hy0' : ¬ y.getD m 0 = 0 := hy0
      have hq : Int.tmod (w64 ((i : Int) + (m : Int))) (n : Int) = (((i + m) % n : Nat) : Int) := by
        rw [w64_id (by omega) (by omega), Int.tmod_eq_emod_of_nonneg (by omega), Int.natCast_emod, Int.natCast_add]
      rw [impl_field_product.g7, if_pos (by omega), inI_at z hml, if_neg hx0, if_neg hy0', gd_ok z (by omega), hq, inI_at z (by rw [C.lenP]; exact hlt), w64_up (by omega)]
      refine Eq.trans (e1 A z k _ (by have := C.le12; omega)) ?_
      exact g1 A z k K0 (by omega)
    · rw [if_pos (Nat.zero_le _), sumF, r3 j, cycW_mod, Int.mul_add, Int.add_assoc]
      congr 2
      rw [Int.mul_comm (cycW n j (i + m)) x, Int.mul_assoc, Int.mul_comm (cycW n j (i + m))]
theorem prod1 {n : Nat} (h1 : 1 ≤ n) (h2 : n ≤ 16) {X Y : Nat} (hXY : X ≤ 16000000000 ∧ Y ≤ 16000000000 ∧ X * Y ≤ 16000000000000000000) {x y : List Int} (hx : ∀ q : Nat, q < x.length → (rd x q).natAbs ≤ X) (hxl : x.length ≤ 100) (hy : ∀ q : Nat, q < y.length → (rd y q).natAbs ≤ Y) (hyl : y.length ≤ 100) :
    ∀ (d i : Nat) (o : List (Int × Nat)) (T : Nat → Int) (c : Nat), i + d = x.length → c + 1200 * d ≤ 200000 → Sums (cycD n) o T c →
    ∃ o', (∀ (A : Type) (z : A) (k : Nat) (K0 : List (Int × Nat) → A), d + 150 ≤ k → impl_field_product.g1 z k (n : Int) (cycP n) y x (x.length : Int) (i : Int) o K0 = K0 o') ∧
      Sums (cycD n) o' (fun j => T j + sumF i d (fun p => rd x p * sumF 0 y.length (fun q => rd y q * cycW n j (p + q)))) (c + 1200 * d)
  | 0, i, o, T, c, hm, hc, hs => by
    refine ⟨o, fun A z k K0 hk => ?_, hs.congr fun j hj => by simp [sumF]⟩
    obtain ⟨k, rfl, _⟩ := up (show 149 + 1 ≤ k by omega)
    rw [impl_field_product.g1, if_neg (by omega)]
  | d + 1, i, o, T, c, hm, hc, hs => by
    have hil : i < x.length := by omega
    obtain ⟨o1, e1, e2⟩ := prod7 h1 h2 (i := i) (by omega) hXY (hx i hil) hy (by omega) y.length 0 o T c (by omega) (by omega) hs
    obtain ⟨o', g1, g2⟩ := prod1 h1 h2 hXY hx hxl hy hyl d (i + 1) o1 _ (c + 1200) (by omega) (by omega) (e2.more (by omega))
    refine ⟨o', fun A z k K0 hk => ?_, (g2.more (by omega)).congr fun j hj => ?_⟩
    · obtain ⟨k, rfl, _⟩ := up (show d + 150 + 1 ≤ k by omega)
      rw [impl_field_product.g1, if_pos (by omega), inI_at z hil, w64_up (by omega)]
      refine Eq.trans (e1 A z k _ (by omega)) ?_
      exact g1 A z k K0 (by omega)
    · rw [sumF, Int.add_assoc]
/-- What sums are told as. -/
theorem values4 {D : Nat} {o : List (Int × Nat)} {T : Nat → Int} {c : Nat} (h : Sums D o T c) (hc : c ≤ 400000) (hD : D ≤ 1000) {A : Type} (z : A) {K0 : Bool → List Int → A} : ∀ (d i k : Nat) (ok : Bool) (l : List Int), i + d = D → l.length = i → d + 4 ≤ k →
    impl_values.g4 z k o ok (o.length : Int) (i : Int) l K0 = K0 (ok && ((List.range' i d).all fun j => fitsB (T j))) (l ++ (List.range' i d).map fun j => w64 (T j))
  | d, i, 0, ok, l, _, _, hk => absurd hk (by omega)
  | 0, i, k + 1, ok, l, hi, hl, hk => by
    rw [impl_values.g4, if_neg (by rw [h.1]; omega)]
    simp
  | d + 1, i, k + 1, ok, l, hi, hl, hk => by
    obtain ⟨k, rfl, _⟩ := up (show d + 3 + 1 ≤ k by omega)
    obtain ⟨k, rfl, _⟩ := up (show d + 2 + 1 ≤ k by omega)
    have hol := h.1
    obtain ⟨g1, g2, g3⟩ := h.2 i (by omega)
    have hf := near_fits g2 hc
    have hv : ∀ Ψ : Int → Bool → A, impl_sum_value z (k + 1 + 1) (o.getD i (0, 0)).1 (o.getD i (0, 0)).2 Ψ = Ψ (w64 (T i)) (fitsB (T i)) := by
      intro Ψ
      simp only [impl_sum_value, step_succ]
      rw [within_eq, g1, ← hf, w64_wrap]
      cases decide (-1000000000 ≤ wrap64 (T i) ∧ wrap64 (T i) ≤ 1000000000)
      · rfl
      · cases (FloatKind.format .f64).order (o.getD i (0, 0)).2 4876203697187506176 == some .lt <;> rfl
    rw [impl_values.g4, if_pos (by rw [hol]; omega), inI_at z (by omega), hv, apI_ok z (by omega), w64_up (by omega), List.range'_succ, List.all_cons, List.map_cons]
    cases ok with
    | true =>
      rw [cond_true, values4 h hc hD z d (i + 1) (k + 1 + 1) _ _ (by omega) (by simp [hl]) (by omega)]
      simp
    | false =>
      rw [cond_false, values4 h hc hD z d (i + 1) (k + 1 + 1) _ _ (by omega) (by simp [hl]) (by omega)]
      simp
theorem fits_small (T : Int) : fitsB T = decide (-1000000000 ≤ T ∧ T ≤ 1000000000) := by
  unfold fitsB
  rw [Bool.eq_iff_iff, decide_eq_true_eq, decide_eq_true_eq]
  omega
theorem times_gen {n : Nat} (h1 : 1 ≤ n) (h2 : n ≤ 16) {X Y : Nat} (hXY : X ≤ 16000000000 ∧ Y ≤ 16000000000 ∧ X * Y ≤ 16000000000000000000) {x y : List Int} (hx : within X x) (hxl : x.length ≤ 100) (hy : within Y y) (hyl : y.length ≤ 100) {A : Type} (z : A) (k : Nat) (hk : 260 ≤ k) (Φ : List Int → Bool → A) :
    impl_field_times z k (n : Int) (cycD n : Int) (cycP n) x y Φ = Φ (tab (cycD n) fun m => w64 (bil n x y m)) (okB n x y) := by
  have C := cyc_facts h1 h2
  have hD := C.le12
  obtain ⟨o', g1, g2⟩ := prod1 h1 h2 hXY (x := x) (y := y) (fun q hq => by have := hx q hq; omega) hxl (fun q hq => by have := hy q hq; omega) hyl x.length 0 _ _ 0 (by omega) (by omega) (sums_zero (cycD n))
  obtain ⟨k, rfl⟩ := le_ex (show 2 ≤ k by omega)
  simp only [impl_field_times, impl_field_product, impl_values, step_succ]
  rw [mkI_at z (by omega)]
  refine Eq.trans (g1 A z (k) _ (by omega)) ?_
  refine Eq.trans (values4 g2 (by omega) (by omega) z (cycD n) 0 k true [] (by omega) rfl (by omega)) ?_
  rw [Bool.true_and, List.nil_append, ← List.range_eq_range']
  have e1 : (List.range (cycD n)).map (fun j => w64 (0 + sumF 0 x.length (fun p => rd x p * sumF 0 y.length (fun q => rd y q * cycW n j (p + q))))) = tab (cycD n) fun m => w64 (bil n x y m) :=
    List.map_congr_left fun j _ => by rw [Int.zero_add]; rfl
  have e2 : ((List.range (cycD n)).all fun j => fitsB (0 + sumF 0 x.length (fun p => rd x p * sumF 0 y.length (fun q => rd y q * cycW n j (p + q))))) = okB n x y := by
    rw [Bool.eq_iff_iff]
    unfold okB
    rw [smallL_tab, List.all_eq_true]
    constructor
    · intro h m hm
      have := h m (List.mem_range.2 hm)
      rw [fits_small, Int.zero_add, decide_eq_true_eq] at this
      exact this
    · intro h m hm
      rw [fits_small, Int.zero_add, decide_eq_true_eq]
      exact h m (List.mem_range.1 hm)
  rw [← e1, ← e2]
theorem times_eq {n : Nat} (h1 : 1 ≤ n) (h2 : n ≤ 16) {x y : List Int} (hx : within 1000000000 x) (hxl : x.length ≤ 100) (hy : within 16000000000 y) (hyl : y.length ≤ 100) {A : Type} (z : A) (k : Nat) (hk : 260 ≤ k) (Φ : List Int → Bool → A) :
    impl_field_times z k (n : Int) (cycD n : Int) (cycP n) x y Φ = Φ (tab (cycD n) fun m => w64 (bil n x y m)) (okB n x y) :=
  times_gen h1 h2 (X := 1000000000) (Y := 16000000000) (by decide) hx hxl hy hyl z k hk Φ
theorem times_eq2 {n : Nat} (h1 : 1 ≤ n) (h2 : n ≤ 16) {x y : List Int} (hx : within 16000000000 x) (hxl : x.length ≤ 100) (hy : within 1000000000 y) (hyl : y.length ≤ 100) {A : Type} (z : A) (k : Nat) (hk : 260 ≤ k) (Φ : List Int → Bool → A) :
    impl_field_times z k (n : Int) (cycD n : Int) (cycP n) x y Φ = Φ (tab (cycD n) fun m => w64 (bil n x y m)) (okB n x y) :=
  times_gen h1 h2 (X := 16000000000) (Y := 1000000000) (by decide) hx hxl hy hyl z k hk Φ
end Go.Proofs.YtbgbokflmekhmaaGreat.F
/- Facts on the functions of the first layer, whole: images, conjugates, products, sums. -/
namespace Go.Proofs.YtbgbokflmekhmaaGreat.F
open Go.RowKit Go.Proofs.YtbgbokflmekhmaaGreat.R
set_option linter.unusedVariables false
set_option linter.unusedSimpArgs false
def told3 (n : Int) (l : List Int) : Int × List Int × Int := if smallL l = true then (n, l, 0) else (0, [], 3)
def gal3 (n : Int) (x : List Int) (a : Int) : Int × List Int × Int := if isC n x = true then (if (1 ≤ a ∧ a ≤ n) ∧ Int.gcd a n = 1 then told3 n (imT n.toNat x a) else (0, [], 2)) else (0, [], 1)
def bar3 (n : Int) (x : List Int) : Int × List Int × Int := if isC n x = true then told3 n (imT n.toNat x (-1)) else (0, [], 1)
def mul3 (m : Int) (x : List Int) (n : Int) (y : List Int) : Int × List Int × Int := if codeC m x n y ≠ 0 then (0, [], codeC m x n y) else match mulO m.toNat x y with
  | some l => (m, l, 0)
  | none => (0, [], 3)
def plusL (x y : List Int) (k : Int) : List Int := addIn y k 0 y.length 0 x
def add3 (m : Int) (x : List Int) (n : Int) (y : List Int) (k : Int) : Int × List Int × Int := if codeC m x n y ≠ 0 then (0, [], codeC m x n y) else if -1000 ≤ k ∧ k ≤ 1000 then told3 m (plusL x y k) else (0, [], 2)
def real2 (n : Int) (x : List Int) : Bool × Int := if isC n x = true then (decide (imT n.toNat x (-1) = x), 0) else (false, 1)
theorem imT_len (n : Nat) (x : List Int) (a : Int) : (imT n x a).length = cycD n := tab_length _ _
theorem isC_x {n : Int} {x : List Int} (h : isC n x = true) : ∃ m : Nat, n = m ∧ 1 ≤ m ∧ m ≤ 16 ∧ x.length = cycD m ∧ x.length ≤ 12 ∧ GoodZ m x := by
  obtain ⟨⟨m, h1, h2, h3, h4⟩, h5⟩ := isC_len h
  have := le12 h2 h3
  exact ⟨m, h1, h2, h3, h4, by omega, h4, smallL_within.1 h5⟩
theorem codeC_zero {m n : Int} {x y : List Int} (h : codeC m x n y = 0) : isC m x = true ∧ isC n y = true ∧ m = n := by
  unfold codeC at h
  cases h1 : isC m x <;> cases h2 : isC n y <;> simp [h1, h2] at h
  exact ⟨rfl, rfl, h⟩
section
variable {A : Type} (z : A)
theorem cycloOf3_eq {l : List Int} (hl : l.length ≤ 1100000) (n : Int) (k : Nat) (hk : l.length + 9 ≤ k) (Φ : Int → List Int → Int → A) : impl_cycloOf z k n l Φ = Φ (told3 n l).1 (told3 n l).2.1 (told3 n l).2.2 := by
  rw [cycloOf_eq z hl n k hk]
  unfold told3
  cases smallL l <;> rfl
theorem conjugate_eq (n : Int) {x : List Int} (hx : x.length ≤ 1100000) (k : Nat) (hk : x.length + 400 ≤ k) (Φ : Int → List Int → Int → A) : impl_ConjugateOf z k n x Φ = Φ (bar3 n x).1 (bar3 n x).2.1 (bar3 n x).2.2 := by
  obtain ⟨k, rfl, hk⟩ := up (show x.length + 399 + 1 ≤ k by omega)
  simp only [impl_ConjugateOf, step_succ]
  rw [isCyclo_eq z n hx k (by omega)]
  unfold bar3
  cases h : isC n x with
  | false => rfl
  | true =>
    obtain ⟨m, rfl, h1, h2, h3, h4, h5⟩ := isC_x h
    rw [Bool.not_true, cond_false, if_pos rfl, field_eq z h1 h2 k (by omega), image_eq z h1 h2 (by omega) (by omega) k (by omega), cycloOf3_eq z (by rw [imT_len]; omega) _ k (by rw [imT_len]; omega), Int.toNat_natCast]
theorem multiply_eq (m n : Int) {x y : List Int} (hx : x.length ≤ 1100000) (hy : y.length ≤ 1100000) (k : Nat) (hk : x.length + y.length + 400 ≤ k) (Φ : Int → List Int → Int → A) : impl_MultiplyCyclos z k m x n y Φ = Φ (mul3 m x n y).1 (mul3 m x n y).2.1 (mul3 m x n y).2.2 := by
  obtain ⟨k, rfl, hk⟩ := up (show x.length + y.length + 399 + 1 ≤ k by omega)
  simp only [impl_MultiplyCyclos, step_succ]
  rw [twoCode_eq z m n hx hy k (by omega)]
  unfold mul3
  by_cases h : codeC m x n y = 0
  · rw [if_neg (by simpa using h), if_neg (by simpa using h)]
    obtain ⟨c1, c2, rfl⟩ := codeC_zero h
    obtain ⟨j, rfl, h1, h2, h3, h4, h5⟩ := isC_x c1
    obtain ⟨j', e, _, _, g3, g4, g5⟩ := isC_x c2
    have : j = j' := by omega
    subst this
    rw [field_eq z h1 h2 k (by omega), times_eq h1 h2 h5.2 (by omega) (fun q hq => by have := g5.2 q hq; omega) (by omega) z k (by omega), Int.toNat_natCast]
    unfold mulO
    cases ho : okB j x y with
    | false => rfl
    | true =>
      have hb := smallL_tab.1 ho
      have e : (tab (cycD j) fun m => w64 (bil j x y m)) = tab (cycD j) (bil j x y) := tab_congr fun m hm => by have := hb m hm; exact w64_id (by omega) (by omega)
      rw [Bool.not_true, cond_false, e, cycloOf3_eq z (by rw [tab_length]; omega) _ k (by rw [tab_length]; omega), if_pos rfl]
      unfold told3
      rw [if_pos (show smallL (tab (cycD j) (bil j x y)) = true from ho)]
  · rw [if_pos (by simpa using h), if_pos (by simpa using h)]
end
end Go.Proofs.YtbgbokflmekhmaaGreat.F
/- Facts on the functions of the first layer, whole: lifts, and fields within fields. -/
namespace Go.Proofs.YtbgbokflmekhmaaGreat.F
open Go.RowKit Go.Proofs.YtbgbokflmekhmaaGreat.R
set_option linter.unusedVariables false
set_option linter.unusedSimpArgs false
def liftT (m s : Nat) (x : List Int) : List Int := tab (cycD m) fun j => w64 (galQ m x (fun i => i * s % m) j)
def lift3 (n : Int) (x : List Int) (m : Int) : Int × List Int × Int := if isC n x = true then (if 1 ≤ m ∧ m ≤ 16 then (if m.toNat % n.toNat = 0 then told3 m (liftT m.toNat (m.toNat / n.toNat) x) else (0, [], 2)) else (0, [], 2)) else (0, [], 1)
def liftIn (s : Nat) (x : List Int) : Nat → Nat → List Int → List Int
  | 0, _, L => L
  | d + 1, i, L => liftIn s x d (i + 1) (L.set (i * s) (rd x i))
theorem liftIn_length (s : Nat) (x : List Int) : ∀ (d i : Nat) (L : List Int), (liftIn s x d i L).length = L.length
  | 0, i, L => rfl
  | d + 1, i, L => by unfold liftIn; rw [liftIn_length s x d, List.length_set]
theorem liftIn_facts {s : Nat} (hs : 1 ≤ s) (x : List Int) (hx : ∀ q : Nat, q < x.length → (rd x q).natAbs ≤ 1000000000) : ∀ (d i : Nat) (L : List Int), i + d = x.length → x.length * s ≤ L.length → (∀ j, i ≤ j → j < x.length → rd L (j * s : Nat) = 0) → Wrapped L →
    Wrapped (liftIn s x d i L) ∧ ∀ w : Nat → Int, dot (liftIn s x d i L) w = dot L w + sumF i d (fun p => rd x p * w (p * s))
  | 0, i, L, hi, hl, hz, hw => ⟨hw, fun w => by simp [liftIn, sumF]⟩
  | d + 1, i, L, hi, hl, hz, hw => by
    have hq : i * s < L.length := Nat.lt_of_lt_of_le (Nat.mul_lt_mul_of_pos_right (show i < x.length by omega) hs) hl
    have hxi := hx i (by omega)
    have hv : rd x i = wrap64 (rd x i) := (wrap_id (by omega) (by omega)).symm
    obtain ⟨g1, g2⟩ := liftIn_facts hs x hx d (i + 1) (L.set (i * s) (rd x i)) (by omega) (by rw [List.length_set]; exact hl) (fun j h1 h2 => by
      rw [rd_set _ _ _ _ (Nat.lt_of_lt_of_le (Nat.mul_lt_mul_of_pos_right h2 hs) hl), if_neg (fun e => by have := Nat.eq_of_mul_eq_mul_right hs e; omega)]
      exact hz j (by omega) h2) (by rw [hv]; exact hw.set _ _)
    refine ⟨g1, fun w => ?_⟩
    show dot (liftIn s x d (i + 1) (L.set (i * s) (rd x i))) w = _
    rw [g2 w, dot_set _ _ _ _ hq, hz i (Nat.le_refl _) (by omega), sumF, Int.sub_zero, Int.add_assoc]
section
variable {A : Type} (z : A)
theorem lift_mod {m n : Nat} (h1 : 1 ≤ n) (hm : m ≤ 16) (hd : m % n = 0) {i : Nat} (hi : i < n) : i * (m / n) ≤ m ∧ (1 ≤ m → 1 ≤ m / n) := by
  have e := Nat.div_add_mod m n
  rw [hd, Nat.add_zero] at e
  refine ⟨?_, fun h => ?_⟩
  · have := Nat.mul_le_mul_right (m / n) (Nat.le_of_lt hi)
    omega
  · rcases Nat.eq_zero_or_pos (m / n) with h0 | h0
    · rw [h0] at e; omega
    · exact h0
theorem tdiv_nat (m n : Nat) : Int.tdiv (m : Int) (n : Int) = ((m / n : Nat) : Int) := by rw [Int.tdiv_eq_ediv_of_nonneg (by omega)]; rfl
theorem tmod_nat (m n : Nat) : Int.tmod (m : Int) (n : Int) = ((m % n : Nat) : Int) := by rw [Int.tmod_eq_emod_of_nonneg (by omega)]; rfl
end
end Go.Proofs.YtbgbokflmekhmaaGreat.F
/- Facts on the functions of the first layer, whole: what lies in a field. -/
namespace Go.Proofs.YtbgbokflmekhmaaGreat.F
open Go.RowKit Go.Proofs.YtbgbokflmekhmaaGreat.R
set_option linter.unusedVariables false
set_option linter.unusedSimpArgs false
def allF (n m : Nat) (x : List Int) : Nat → Nat → Bool
  | 0, _ => true
  | d + 1, a => if (a - 1) % m = 0 ∧ Nat.gcd a n = 1 then (if imT n x (a : Int) = x then allF n m x d (a + 1) else false) else allF n m x d (a + 1)
def inF (n : Int) (x : List Int) (m : Int) : Bool × Int := if isC n x = true then (if 1 ≤ m ∧ n.toNat % m.toNat = 0 then (allF n.toNat m.toNat x n.toNat 1, 0) else (false, 2)) else (false, 1)
theorem one_mod {a m : Nat} (ha : 1 ≤ a) : (a - 1) % m = 0 ↔ a % m = 1 % m := by
  obtain ⟨b, rfl⟩ : ∃ b, a = b + 1 := ⟨a - 1, by omega⟩
  rw [Nat.add_sub_cancel]
  constructor
  · intro h; rw [Nat.add_mod, h, Nat.zero_add, Nat.mod_mod]
  · intro h
    have h1 : ((b + 1) - 1) % m = 0 := Nat.sub_mod_eq_zero_of_mod_eq h
    simpa using h1
section
variable {A : Type} (z : A)
end
end Go.Proofs.YtbgbokflmekhmaaGreat.F
/- Facts on the functions of the first layer, whole: what is drawn. -/
namespace Go.Proofs.YtbgbokflmekhmaaGreat.F
open Go.RowKit Go.Proofs.YtbgbokflmekhmaaGreat.R
set_option linter.unusedVariables false
set_option linter.unusedSimpArgs false
def Src (c : List Int) (i : Int) : Prop := c.length ≤ 4096 ∧ (∀ x ∈ c, 0 ≤ x ∧ x ≤ 255) ∧ 0 ≤ i ∧ i ≤ (c.length : Int)
theorem mask_bd (y : Int) : 0 ≤ wu64 ((BitVec.ofInt 64 y &&& BitVec.ofInt 64 1073741823).toNat : Int) ∧ wu64 ((BitVec.ofInt 64 y &&& BitVec.ofInt 64 1073741823).toNat : Int) ≤ 1073741823 := by
  have h : (BitVec.ofInt 64 y &&& BitVec.ofInt 64 1073741823).toNat ≤ 1073741823 := by
    rw [BitVec.toNat_and]
    exact Nat.le_trans Nat.and_le_right (by decide)
  generalize (BitVec.ofInt 64 y &&& BitVec.ofInt 64 1073741823).toNat = q at h
  rw [show wu64 (q : Int) = q by rw [wu64_def]; omega]
  omega
def stir (h : Int) : Int := wu64 (wu64 (h * 6364136223846793005) + 1442695040888963407)
def pull (h : Int) : Int := wu64 ((BitVec.ofInt 64 ((stir h).fdiv (2 ^ (31))) &&& BitVec.ofInt 64 1073741823).toNat : Int)
section
variable {A : Type} (z : A)
theorem next_eq {c : List Int} {i : Int} (hs : Src c i) (h n : Int) : ∃ i' h' v, (Src c i' ∧ 0 ≤ v ∧ (1 ≤ n → v < n) ∧ (n < 1 → v = 0)) ∧ ∀ k, 1 ≤ k → ∀ Φ : List Int → Int → Int → Int → A, spec_l01Next z k c i h n Φ = Φ c i' h' v := by
  obtain ⟨hc, hb, h0, h1⟩ := hs
  by_cases e : n < 1
  · refine ⟨i, h, 0, ⟨⟨hc, hb, h0, h1⟩, Int.le_refl _, by omega, fun _ => rfl⟩, fun k hk Φ => ?_⟩
    obtain ⟨k, rfl⟩ := le_ex hk
    simp only [spec_l01Next, step_succ]
    rw [if_pos e]
  · obtain ⟨m0, m1⟩ := mask_bd ((stir h).fdiv (2 ^ (31)))
    have m0 : 0 ≤ pull h := m0
    have m1 : pull h ≤ 1073741823 := m1
    by_cases e2 : i < (c.length : Int)
    · obtain ⟨i, rfl⟩ := Int.eq_ofNat_of_zero_le h0
      have hi : i < c.length := by omega
      have hr : 0 ≤ c.getD i 0 ∧ c.getD i 0 ≤ 255 := by rw [getD_at hi]; exact hb _ (List.getElem_mem hi)
      refine ⟨((i + 1 : Nat) : Int), stir h, (w64 (w64 (pull h) + w64 (c.getD i 0))).tmod n, ⟨⟨hc, hb, by omega, by omega⟩, ?_, fun hn => Int.tmod_lt_of_pos _ (by omega), fun hn => absurd hn e⟩, fun k hk Φ => ?_⟩
      · refine Int.tmod_nonneg _ ?_
        rw [w64_id (x := pull h) (by omega) (by omega), w64_id (x := c.getD i 0) (by omega) (by omega), w64_id (by omega) (by omega)]
        omega
      · obtain ⟨k, rfl⟩ := le_ex hk
        simp only [spec_l01Next, step_succ]
        rw [if_neg e, if_pos e2, inI_at z hi, gd_ok z (by omega), w64_up (by omega)]
        rfl
    · refine ⟨i, stir h, (w64 (pull h)).tmod n, ⟨⟨hc, hb, h0, h1⟩, ?_, fun hn => Int.tmod_lt_of_pos _ (by omega), fun hn => absurd hn e⟩, fun k hk Φ => ?_⟩
      · refine Int.tmod_nonneg _ ?_
        rw [w64_id (by omega) (by omega)]
        omega
      · obtain ⟨k, rfl⟩ := le_ex hk
        simp only [spec_l01Next, step_succ]
        rw [if_neg e, if_neg e2, gd_ok z (by omega)]
        rfl
theorem pick_eq {c : List Int} {i : Int} (hs : Src c i) (h : Int) (l : List Int) (hl : l ≠ []) : ∃ i' h' v, (Src c i' ∧ v ∈ l) ∧ ∀ k, 2 ≤ k → ∀ Φ : List Int → Int → Int → Int → A, spec_l01Pick z k c i h l Φ = Φ c i' h' v := by
  have hp : 0 < l.length := List.length_pos_iff.2 hl
  obtain ⟨i', h', v, ⟨s, v0, v1, _⟩, e⟩ := next_eq z hs h (l.length : Int)
  have v2 := v1 (by omega)
  obtain ⟨j, rfl⟩ := Int.eq_ofNat_of_zero_le v0
  have hj : j < l.length := by omega
  refine ⟨i', h', l.getD j 0, ⟨s, by rw [getD_at hj]; exact List.getElem_mem _⟩, fun k hk Φ => ?_⟩
  obtain ⟨k, rfl⟩ := le_ex hk
  simp only [spec_l01Pick, step_succ]
  rw [e _ (by omega), inI_at z hj]
theorem from_g {c : List Int} (hc : c.length ≤ 4096) : ∀ (d i : Nat) (h : Int), i + d = c.length → ∃ h', ∀ k, d + 1 ≤ k → ∀ K0 : Int → A, spec_l01From.g4 z k c (i : Int) h K0 = K0 h'
  | 0, i, h, hi => ⟨h, fun k hk K0 => by
    obtain ⟨k, rfl⟩ := le_ex hk
    rw [spec_l01From.g4, if_neg (by omega)]⟩
  | d + 1, i, h, hi => by
    obtain ⟨h', e⟩ := from_g hc d (i + 1) (wu64 ((wu64 ((wu64 (h * 1099511628211)) + (wu64 (c.getD i 0)))) + 131)) (by omega)
    refine ⟨h', fun k hk K0 => ?_⟩
    obtain ⟨k, rfl, hk⟩ := up hk
    rw [spec_l01From.g4, if_pos (by omega), if_pos (by omega), inI_at z (by omega), w64_up (by omega), e k (by omega)]
theorem from_eq {c : List Int} (hc : c.length ≤ 4096) (hb : ∀ x ∈ c, 0 ≤ x ∧ x ≤ 255) : ∃ h i, Src c i ∧ ∀ k, 4098 ≤ k → ∀ Φ : List Int → Int → Int → A, spec_l01From z k c Φ = Φ c i h := by
  obtain ⟨h, e⟩ := from_g z hc c.length 0 (wu64 (13131 + (wu64 (c.length : Int)))) (by omega)
  refine ⟨h, 0, ⟨hc, hb, by omega, by omega⟩, fun k hk Φ => ?_⟩
  obtain ⟨k, rfl⟩ := le_ex (show 1 ≤ k by omega)
  simp only [spec_l01From, step_succ]
  exact e _ (by omega) _
theorem drawPart_eq {c : List Int} {i : Int} (hs : Src c i) (h : Int) {p : Int} (hp : 0 ≤ p ∧ p ≤ 1000000000) : ∃ i' h' v, (Src c i' ∧ -p ≤ v ∧ v ≤ p) ∧ ∀ k, 2 ≤ k → ∀ Φ : List Int → Int → Int → Int → A, spec_l01DrawPart z k c i h p Φ = Φ c i' h' v := by
  obtain ⟨i1, h1, v1, ⟨s1, v0, v2, _⟩, e1⟩ := next_eq z hs h (2 * p + 1)
  have v2 := v2 (by omega)
  refine ⟨i1, h1, v1 - p, ⟨s1, by omega, by omega⟩, fun k hk Φ => ?_⟩
  obtain ⟨k, rfl⟩ := le_ex hk
  simp only [spec_l01DrawPart, step_succ]
  rw [w64_id (x := 2 * p) (by omega) (by omega), w64_id (x := 2 * p + 1) (by omega) (by omega), e1 _ (by omega), w64_id (by omega) (by omega)]
theorem within_set {B : Int} {o : List Int} (h : within B o) (j : Nat) {v : Int} (hv : -B ≤ v ∧ v ≤ B) : within B (o.set j v) := by
  intro q hq
  rw [List.length_set] at hq
  rw [rd_set _ _ _ _ hq]
  split
  · exact hv
  · exact h q hq
theorem near_eq {c : List Int} {i : Int} (hs : Src c i) (h n : Int) : ∃ i' h' v, Src c i' ∧ ∀ k, 4 ≤ k → ∀ Φ : List Int → Int → Int → Int → A, spec_l01Near z k c i h n Φ = Φ c i' h' v := by
  obtain ⟨i1, h1, v, ⟨s1, v0, v1, _⟩, e1⟩ := next_eq z hs h 14
  by_cases c0 : v = 0
  · obtain ⟨i2, h2, u, ⟨s2, hu⟩, e2⟩ := pick_eq z s1 h1 [(-1), (w64 (n + 1)), 1099511627776, (-4611686018427387904)] (by simp)
    refine ⟨i2, h2, u, s2, fun k hk Φ => ?_⟩
    obtain ⟨k, rfl⟩ := le_ex (show 1 ≤ k by omega)
    simp only [spec_l01Near, step_succ]
    rw [e1 _ (by omega), if_pos c0, e2 _ (by omega)]
  · obtain ⟨i2, h2, u, ⟨s2, _⟩, e2⟩ := next_eq z s1 h1 (w64 (n + 1))
    refine ⟨i2, h2, u, s2, fun k hk Φ => ?_⟩
    obtain ⟨k, rfl⟩ := le_ex (show 1 ≤ k by omega)
    simp only [spec_l01Near, step_succ]
    rw [e1 _ (by omega), if_neg c0, e2 _ (by omega)]
end
end Go.Proofs.YtbgbokflmekhmaaGreat.F
/- Facts on the functions of the first layer, whole: what the law of images draws. -/
namespace Go.Proofs.YtbgbokflmekhmaaGreat.F
open Go.RowKit Go.Proofs.YtbgbokflmekhmaaGreat.R
set_option linter.unusedVariables false
set_option linter.unusedSimpArgs false
section
variable {A : Type} (z : A)
theorem in8 {v : Int} (h : v ∈ [(1 : Int), 2, 3, 4, 5, 6, 7, 8]) : 1 ≤ v ∧ v ≤ 8 := by
  simp only [List.mem_cons, List.not_mem_nil, or_false] at h
  omega
theorem cyc_bd {n : Int} (h : 1 ≤ n ∧ n ≤ 16) : 1 ≤ cycD n.toNat ∧ cycD n.toNat ≤ 12 := by
  have C := cyc_facts (n := n.toNat) (by omega) (by omega)
  exact ⟨C.pos, C.le12⟩
theorem unit_eq {n : Nat} (h1 : 1 ≤ n) (h2 : n ≤ 16) : ∃ o, o.length = cycD n ∧ ∀ k, 300 ≤ k → ∀ Φ : Int → List Int → A, spec_l01Unit z k (n : Int) 1 Φ = Φ n o := by
  have hy : (w64 (Int.tmod 1 (n : Int) + n)).tmod n = ((1 % n : Nat) : Int) := by
    rw [show (1 : Int) = ((1 : Nat) : Int) from rfl, tmod_nat, ← Int.natCast_add, w64_id (by omega) (by have := Nat.mod_lt 1 h1; omega), tmod_nat, Nat.add_mod_right, Nat.mod_mod]
  have hr := Nat.mod_lt 1 h1
  have hw : Wrapped ((List.replicate (1 % n + 1) (0 : Int)).set (1 % n) 1) := by
    have := (wrapped_zeros (1 % n + 1)).set (1 % n) 1
    rwa [wrap_id (by omega) (by omega)] at this
  refine ⟨tab (cycD n) fun m => wrap64 (dot ((List.replicate (1 % n + 1) (0 : Int)).set (1 % n) 1) (cycW n m)), tab_length _ _, fun k hk Φ => ?_⟩
  obtain ⟨k, rfl⟩ := le_ex (show 1 ≤ k by omega)
  simp only [spec_l01Unit, step_succ]
  rw [gd_ok z (by omega), gd_ok z (by omega), hy, w64_up (by omega), mkI_at z (by omega), inI_at z (by rw [List.length_replicate]; omega)]
  exact reduce_eq z h1 h2 (by rw [List.length_set, List.length_replicate]; omega) hw k (by rw [List.length_set, List.length_replicate]; omega) Φ
end
end Go.Proofs.YtbgbokflmekhmaaGreat.F
/- What images, conjugates, sums and lifts keep to. Plain. -/
namespace Go.Proofs.YtbgbokflmekhmaaGreat.F
open Go.RowKit Go.Proofs.YtbgbokflmekhmaaGreat.R
set_option linter.unusedVariables false
set_option linter.unusedSimpArgs false
theorem imT_nat {n : Nat} (h1 : 1 ≤ n) (h2 : n ≤ 16) {x : List Int} (hx : GoodZ n x) (a : Nat) : imT n x (a : Int) = tab (cycD n) (galN n x a) := by
  have C := cyc_facts h1 h2
  have := C.le12
  refine tab_congr fun m hm => ?_
  have h := gal_le C h1 (B := 1000000000) (by omega) hx.2 (by rw [hx.1]; omega) (a : Int) m
  rw [wrap_id (by omega) (by omega), gal_nat]
theorem gal_neg {n : Nat} (h1 : 1 ≤ n) (x : List Int) (m : Nat) : gal n x (-1) m = gal n x ((n - 1 : Nat) : Int) m := by
  unfold gal
  refine sumF_congr _ 0 fun i _ _ => ?_
  have e : ((i : Int) * ((n - 1 : Nat) : Int)) % (n : Int) = ((i : Int) * (-1)) % (n : Int) := by
    have e1 : (i : Int) * ((n - 1 : Nat) : Int) = (i : Int) * (-1) + (i : Int) * n := by
      rw [← Int.mul_add]
      congr 1
      omega
    rw [e1, Int.add_mul_emod_self_right]
  rw [e]
theorem imT_neg {n : Nat} (h1 : 1 ≤ n) (x : List Int) : imT n x (-1) = imT n x ((n - 1 : Nat) : Int) := tab_congr fun m _ => by rw [gal_neg h1]
theorem neg_tab : ∀ n : Nat, 1 ≤ n → n ≤ 16 → Nat.gcd (n - 1) n = 1 ∧ (n - 1) * (n - 1) % n = 1 % n :=
  by16 (by decide) (by decide) (by decide) (by decide) (by decide) (by decide) (by decide) (by decide) (by decide) (by decide) (by decide) (by decide) (by decide) (by decide) (by decide) (by decide)
theorem rd_imT {n : Nat} (x : List Int) (a : Int) {j : Nat} (hj : j < cycD n) : rd (imT n x a) j = wrap64 (gal n x a j) := tab_rd _ _ _ hj
/-- An image of a square is the square of the image. -/
theorem image_square {n : Nat} (h1 : 1 ≤ n) (h2 : n ≤ 16) {x y P Q : List Int} (hx : GoodZ n x) (hy : GoodZ n y) {a : Nat} (ha : Nat.gcd a n = 1) (hP : mulO n x y = some P) (hQ : mulO n (imT n x (a : Int)) (imT n y (a : Int)) = some Q) : imT n P (a : Int) = Q := by
  rw [imT_nat h1 h2 (mulO_good hP), ]
  rw [imT_nat h1 h2 hx, imT_nat h1 h2 hy] at hQ
  unfold mulO at hP hQ
  split at hP
  · split at hQ
    · cases hP
      cases hQ
      exact tab_congr fun m hm => gal_bil h1 h2 a ha x y m hm
    · cases hQ
  · cases hP
theorem bar_bar {n : Nat} (h1 : 1 ≤ n) (h2 : n ≤ 16) {x : List Int} (hx : GoodZ n x) (hy : GoodZ n (imT n x (-1))) : imT n (imT n x (-1)) (-1) = x := by
  obtain ⟨g, s⟩ := neg_tab n h1 h2
  rw [imT_neg h1 (imT n x (-1)), imT_nat h1 h2 hy, imT_neg h1, imT_nat h1 h2 hx]
  refine (tab_ext hx.1 fun m hm => ?_).symm
  rw [gal_gal h1 h2 _ _ g x m hm, gal_one (cyc_facts h1 h2) x hx.1 _ s m hm]
theorem plusL_length (x y : List Int) (v : Int) : (plusL x y v).length = x.length := addIn_length y v 0 y.length 0 x
theorem good_wrapped {n : Nat} {x : List Int} (hx : GoodZ n x) : Wrapped x := fun j hj => by
  have := hx.2 j hj
  exact wrap_id (by omega) (by omega)
theorem plusL_rd {n : Nat} {x y : List Int} (hx : GoodZ n x) (hy : GoodZ n y) (hs : GoodZ n (plusL x y 1)) {j : Nat} (hj : j < cycD n) : rd (plusL x y 1) j = rd x j + rd y j := by
  have l1 := hx.1
  have l2 := hy.1
  obtain ⟨a1, a2, a3⟩ := addIn_facts y 1 0 y.length 0 x (by omega) (good_wrapped hx)
  have h := a3 (fun i => if j = i then 1 else 0)
  have e : sumF 0 y.length (fun i => rd y i * (if j = 0 + i then 1 else 0)) = rd y j := by
    have := dot_one y j (by omega)
    unfold dot at this
    rw [← this]
    exact sumF_congr _ 0 fun i _ _ => by rw [Nat.zero_add]
  have hl : j < (addIn y 1 0 y.length 0 x).length := by rw [a1]; omega
  rw [e, dot_one x j (by omega), dot_one _ j hl, Int.one_mul] at h
  have := h.eq
  have b1 := hx.2 j (by omega)
  have b2 := hy.2 j (by omega)
  have b3 := hs.2 j (by rw [plusL_length]; omega)
  unfold plusL at b3 ⊢
  rw [wrap_id (x := rd x j + rd y j) (by omega) (by omega), wrap_id (by omega) (by omega)] at this
  exact this
theorem galN_plus {n : Nat} {x y s : List Int} (hx : x.length = cycD n) (hy : y.length = cycD n) (hs : s.length = cycD n) (h : ∀ j : Nat, j < cycD n → rd s j = rd x j + rd y j) (a m : Nat) : galN n s a m = galN n x a m + galN n y a m := by
  unfold galN
  rw [hx, hy, hs, ← sumF_add]
  exact sumF_congr _ 0 fun i _ hi => by rw [h i (by omega), Int.add_mul]
theorem plus_bar {n : Nat} (h1 : 1 ≤ n) (h2 : n ≤ 16) {x : List Int} (hx : GoodZ n x) (hy : GoodZ n (imT n x (-1))) (hs : GoodZ n (plusL x (imT n x (-1)) 1)) : imT n (plusL x (imT n x (-1)) 1) (-1) = plusL x (imT n x (-1)) 1 := by
  obtain ⟨g, s⟩ := neg_tab n h1 h2
  have bb := bar_bar h1 h2 hx hy
  have hp := fun {j : Nat} (hj : j < cycD n) => plusL_rd hx hy hs hj
  have e1 : imT n x (-1) = tab (cycD n) (galN n x (n - 1)) := by rw [imT_neg h1, imT_nat h1 h2 hx]
  have e2 : imT n (imT n x (-1)) (-1) = tab (cycD n) (galN n (imT n x (-1)) (n - 1)) := by rw [imT_neg h1 (imT n x (-1)), imT_nat h1 h2 hy]
  rw [imT_neg h1 (plusL x (imT n x (-1)) 1), imT_nat h1 h2 hs]
  refine (tab_ext hs.1 fun m hm => ?_).symm
  rw [hp hm, galN_plus hx.1 hy.1 hs.1 (fun j hj => hp hj)]
  have f1 : rd (imT n x (-1)) m = galN n x (n - 1) m := by rw [e1, tab_rd _ _ _ hm]
  have f2 : rd x m = galN n (imT n x (-1)) (n - 1) m := by
    have := tab_rd (cycD n) (galN n (imT n x (-1)) (n - 1)) m hm
    rw [← this, ← e2, bb]
  omega
theorem galQ_le {n : Nat} (C : CycFacts n) (hn : 1 ≤ n) {x : List Int} (hx : within 1000000000 x) (hl : x.length ≤ 12) (q : Nat → Nat) (m : Nat) : -12000000000 ≤ galQ n x q m ∧ galQ n x q m ≤ 12000000000 := by
  have h := sumF_le (B := 1000000000) (f := fun i => rd x i * cycW n m (q i)) x.length 0 (fun i _ hi => by
    have := mul_le (hx i (by omega)) (cycW_small C hn m (q i))
    omega)
  unfold galQ
  omega
theorem lift_kept {n m : Nat} (h1 : 1 ≤ n) (h2 : n ≤ 16) (m1 : 1 ≤ m) (m2 : m ≤ 16) (hd : m % n = 0) {x : List Int} (hx : GoodZ n x) (hL : GoodZ m (liftT m (m / n) x)) {a : Nat} (ha1 : 1 ≤ a) (ha : Nat.gcd a m = 1) (hm : (a - 1) % n = 0) : imT m (liftT m (m / n) x) (a : Int) = liftT m (m / n) x := by
  have C := cyc_facts m1 m2
  have Cn := cyc_facts h1 h2
  have := Cn.le12
  have lx := hx.1
  have e : liftT m (m / n) x = tab (cycD m) (galQ m x (fun i => i * (m / n) % m)) := tab_congr fun j _ => by
    have := galQ_le C m1 hx.2 (by omega) (fun i => i * (m / n) % m) j
    exact w64_id (by omega) (by omega)
  rw [imT_nat m1 m2 hL, e]
  refine tab_congr fun j hj => ?_
  rw [gal_galQ m1 m2 a ha x _ j hj]
  unfold galQ
  refine sumF_congr _ 0 fun i _ _ => congrArg (rd x i * ·) ?_
  rw [cycW_mul, ← cycW_mod m j (i * (m / n) * a), ← cycW_mod m j (i * (m / n) % m), Nat.mod_mod]
  congr 1
  obtain ⟨t, ht⟩ : ∃ t, a = 1 + n * t := ⟨(a - 1) / n, by have := Nat.div_add_mod (a - 1) n; omega⟩
  have hs : n * (m / n) = m := by have := Nat.div_add_mod m n; omega
  rw [ht, Nat.mul_add, Nat.mul_one, show i * (m / n) * (n * t) = m * (i * t) by rw [Nat.mul_assoc, ← Nat.mul_assoc (m / n), Nat.mul_comm (m / n) n, hs, Nat.mul_left_comm], Nat.add_mul_mod_self_left]
theorem allF_true {n m : Nat} {x : List Int} (h : ∀ a : Nat, 1 ≤ a → Nat.gcd a n = 1 → (a - 1) % m = 0 → imT n x (a : Int) = x) : ∀ (d a : Nat), 1 ≤ a → allF n m x d a = true
  | 0, a, _ => rfl
  | d + 1, a, ha => by
    rw [allF]
    by_cases c : (a - 1) % m = 0 ∧ Nat.gcd a n = 1
    · rw [if_pos c, if_pos (h a ha c.2 c.1), allF_true h d (a + 1) (by omega)]
    · rw [if_neg c, allF_true h d (a + 1) (by omega)]
end Go.Proofs.YtbgbokflmekhmaaGreat.F
/- What the functions of the first layer answer, when they answer. Plain. -/
namespace Go.Proofs.YtbgbokflmekhmaaGreat.F
open Go.RowKit Go.Proofs.YtbgbokflmekhmaaGreat.R
set_option linter.unusedVariables false
set_option linter.unusedSimpArgs false
theorem told3_zero {n : Int} {l : List Int} (h : (told3 n l).2.2 = 0) : smallL l = true ∧ told3 n l = (n, l, 0) := by
  unfold told3 at h ⊢
  split at h
  · rename_i c; exact ⟨c, if_pos c⟩
  · exact absurd h (by decide)
theorem isC_of {n : Nat} (h1 : 1 ≤ n) (h2 : n ≤ 16) {l : List Int} (hl : l.length = cycD n) (hs : smallL l = true) : isC (n : Int) l = true := by
  unfold isC
  rw [decide_eq_true (show 1 ≤ (n : Int) ∧ (n : Int) ≤ 16 by omega), Int.toNat_natCast, decide_eq_true hl, hs]
  rfl
theorem told3_len (n : Int) (l : List Int) : (told3 n l).2.1.length ≤ l.length := by
  unfold told3
  split
  · exact Nat.le_refl _
  · exact Nat.zero_le _
theorem gal3_zero {n a : Int} {x : List Int} (h : (gal3 n x a).2.2 = 0) : ∃ m b : Nat, n = m ∧ a = b ∧ 1 ≤ m ∧ m ≤ 16 ∧ GoodZ m x ∧ 1 ≤ b ∧ b ≤ m ∧ Nat.gcd b m = 1 ∧ smallL (imT m x (b : Int)) = true ∧ gal3 n x a = ((m : Int), imT m x (b : Int), 0) := by
  unfold gal3 at h ⊢
  split at h
  · rename_i c
    obtain ⟨m, rfl, h1, h2, h3, h4, h5⟩ := isC_x c
    rw [Int.toNat_natCast] at h ⊢
    split at h
    · rename_i c2
      obtain ⟨b, rfl⟩ : ∃ j : Nat, a = j := ⟨a.toNat, by omega⟩
      obtain ⟨s, e⟩ := told3_zero h
      exact ⟨m, b, rfl, rfl, h1, h2, h5, by omega, by omega, c2.2, s, by rw [if_pos c, if_pos c2, e]⟩
    · exact absurd h (by decide)
  · exact absurd h (by decide)
theorem gal3_len {n a : Int} {x : List Int} : (gal3 n x a).2.1.length ≤ 12 := by
  unfold gal3
  split
  · rename_i c
    obtain ⟨m, rfl, h1, h2, h3, h4, h5⟩ := isC_x c
    split
    · refine Nat.le_trans (told3_len _ _) ?_
      rw [imT_len, Int.toNat_natCast]
      exact le12 h1 h2
    · exact Nat.zero_le _
  · exact Nat.zero_le _
theorem mul3_zero {m n : Int} {x y : List Int} (h : (mul3 m x n y).2.2 = 0) : ∃ P, isC m x = true ∧ isC n y = true ∧ m = n ∧ mulO m.toNat x y = some P ∧ mul3 m x n y = (m, P, 0) := by
  unfold mul3 at h ⊢
  split at h
  · rename_i c; exact absurd h c
  · rename_i c
    obtain ⟨c1, c2, c3⟩ := codeC_zero (Decidable.of_not_not c)
    rw [if_neg c]
    cases e : mulO m.toNat x y with
    | none =>
      rw [e] at h
      have h : (3 : Int) = 0 := h
      omega
    | some P => exact ⟨P, c1, c2, c3, rfl, rfl⟩
theorem mul3_len {m n : Int} {x y : List Int} : (mul3 m x n y).2.1.length ≤ 12 := by
  unfold mul3
  split
  · exact Nat.zero_le _
  · rename_i c
    obtain ⟨c1, c2, c3⟩ := codeC_zero (Decidable.of_not_not c)
    obtain ⟨m, rfl, h1, h2, h3, h4, h5⟩ := isC_x c1
    rw [Int.toNat_natCast]
    cases e : mulO m x y with
    | none => exact Nat.zero_le _
    | some P =>
      have := (mulO_good e).1
      have := le12 h1 h2
      show P.length ≤ 12
      omega
/-- The square's image, and the image's square. -/
theorem square_kept {n a : Int} {x : List Int} (h : (gal3 n x a).2.2 = 0) (h1 : (mul3 n x n x).2.2 = 0) (h2 : (gal3 (mul3 n x n x).1 (mul3 n x n x).2.1 a).2.2 = 0)
    (h3 : (mul3 (gal3 n x a).1 (gal3 n x a).2.1 (gal3 n x a).1 (gal3 n x a).2.1).2.2 = 0) :
    (gal3 (mul3 n x n x).1 (mul3 n x n x).2.1 a).1 = (mul3 (gal3 n x a).1 (gal3 n x a).2.1 (gal3 n x a).1 (gal3 n x a).2.1).1 ∧
    (gal3 (mul3 n x n x).1 (mul3 n x n x).2.1 a).2.1 = (mul3 (gal3 n x a).1 (gal3 n x a).2.1 (gal3 n x a).1 (gal3 n x a).2.1).2.1 := by
  obtain ⟨m, b, rfl, rfl, m1, m2, gx, b1, b2, g, s, e⟩ := gal3_zero h
  obtain ⟨P, c1, c2, c3, p1, p2⟩ := mul3_zero h1
  rw [p2] at h2 ⊢
  obtain ⟨m', b', hm, hb, _, _, gp, _, _, _, sp, ep⟩ := gal3_zero h2
  have hm : m' = m := by have : (m : Int) = m' := hm; omega
  have hb : b' = b := by omega
  subst hm hb
  rw [e] at h3 ⊢
  obtain ⟨Q, d1, d2, d3, q1, q2⟩ := mul3_zero h3
  rw [q2, ep]
  rw [Int.toNat_natCast] at p1 q1
  exact ⟨rfl, image_square m1 m2 gx gx g p1 q1⟩
theorem bar3_zero {n : Int} {x : List Int} (h : (bar3 n x).2.2 = 0) : ∃ m : Nat, n = m ∧ 1 ≤ m ∧ m ≤ 16 ∧ GoodZ m x ∧ GoodZ m (imT m x (-1)) ∧ bar3 n x = ((m : Int), imT m x (-1), 0) := by
  unfold bar3 at h ⊢
  split at h
  · rename_i c
    obtain ⟨m, rfl, h1, h2, h3, h4, h5⟩ := isC_x c
    rw [Int.toNat_natCast] at h ⊢
    obtain ⟨s, e⟩ := told3_zero h
    exact ⟨m, rfl, h1, h2, h5, ⟨imT_len _ _ _, smallL_within.1 s⟩, by rw [if_pos c, e]⟩
  · exact absurd h (by decide)
theorem bar3_of {m : Nat} (h1 : 1 ≤ m) (h2 : m ≤ 16) {x : List Int} (hx : GoodZ m x) (hy : GoodZ m (imT m x (-1))) : bar3 (m : Int) x = ((m : Int), imT m x (-1), 0) := by
  unfold bar3
  rw [if_pos (isC_of h1 h2 hx.1 (good_small hx)), Int.toNat_natCast]
  unfold told3
  rw [if_pos (good_small hy)]
theorem bar3_len {n : Int} {x : List Int} : (bar3 n x).2.1.length ≤ 12 := by
  unfold bar3
  split
  · rename_i c
    obtain ⟨m, rfl, h1, h2, h3, h4, h5⟩ := isC_x c
    refine Nat.le_trans (told3_len _ _) ?_
    rw [imT_len, Int.toNat_natCast]
    exact le12 h1 h2
  · exact Nat.zero_le _
theorem bar_kept {n : Int} {x : List Int} (h : (bar3 n x).2.2 = 0) : bar3 (bar3 n x).1 (bar3 n x).2.1 = (n, x, 0) := by
  obtain ⟨m, rfl, m1, m2, gx, gy, e⟩ := bar3_zero h
  have bb := bar_bar m1 m2 gx gy
  rw [e]
  show bar3 (m : Int) (imT m x (-1)) = _
  rw [bar3_of m1 m2 gy (by rw [bb]; exact gx), bb]
theorem add3_len {m n : Int} {x y : List Int} {v : Int} : (add3 m x n y v).2.1.length ≤ 12 := by
  unfold add3
  split
  · exact Nat.zero_le _
  · rename_i c
    obtain ⟨c1, c2, c3⟩ := codeC_zero (Decidable.of_not_not c)
    obtain ⟨m, rfl, h1, h2, h3, h4, h5⟩ := isC_x c1
    split
    · refine Nat.le_trans (told3_len _ _) ?_
      rw [plusL_length]
      exact h4
    · exact Nat.zero_le _
theorem plus_kept {n : Int} {x : List Int} (h : (bar3 n x).2.2 = 0) (h2 : (add3 n x (bar3 n x).1 (bar3 n x).2.1 1).2.2 = 0) : real2 (add3 n x (bar3 n x).1 (bar3 n x).2.1 1).1 (add3 n x (bar3 n x).1 (bar3 n x).2.1 1).2.1 = (true, 0) := by
  obtain ⟨m, rfl, m1, m2, gx, gy, e⟩ := bar3_zero h
  rw [e] at h2 ⊢
  have h2 : (add3 (m : Int) x (m : Int) (imT m x (-1)) 1).2.2 = 0 := h2
  show real2 (add3 (m : Int) x (m : Int) (imT m x (-1)) 1).1 (add3 (m : Int) x (m : Int) (imT m x (-1)) 1).2.1 = _
  unfold add3 at h2 ⊢
  split at h2
  · rename_i c; exact absurd h2 c
  · rename_i c
    rw [if_neg c]
    rw [if_pos (show -1000 ≤ (1 : Int) ∧ (1 : Int) ≤ 1000 by omega)] at h2 ⊢
    obtain ⟨s, e3⟩ := told3_zero h2
    rw [e3]
    have gs : GoodZ m (plusL x (imT m x (-1)) 1) := ⟨by rw [plusL_length]; exact gx.1, smallL_within.1 s⟩
    show real2 (m : Int) (plusL x (imT m x (-1)) 1) = _
    unfold real2
    rw [if_pos (isC_of m1 m2 gs.1 s), Int.toNat_natCast, decide_eq_true (plus_bar m1 m2 gx gy gs)]
theorem lift3_len {n m : Int} {x : List Int} : (lift3 n x m).2.1.length ≤ 12 := by
  unfold lift3
  split
  · split
    · split
      · refine Nat.le_trans (told3_len _ _) ?_
        unfold liftT
        rw [tab_length]
        exact le12 (by omega) (by omega)
      · exact Nat.zero_le _
    · exact Nat.zero_le _
  · exact Nat.zero_le _
theorem lift3_kept {n m : Int} {x : List Int} (h : (lift3 n x m).2.2 = 0) : inF (lift3 n x m).1 (lift3 n x m).2.1 n = (true, 0) := by
  unfold lift3 at h ⊢
  split at h
  · rename_i c
    obtain ⟨n, rfl, h1, h2, h3, h4, h5⟩ := isC_x c
    rw [if_pos c]
    split at h
    · rename_i c2
      obtain ⟨m, rfl⟩ : ∃ j : Nat, m = j := ⟨m.toNat, by omega⟩
      rw [if_pos c2]
      rw [Int.toNat_natCast, Int.toNat_natCast] at h ⊢
      split at h
      · rename_i c3
        rw [if_pos c3]
        obtain ⟨s, e⟩ := told3_zero h
        rw [e]
        have hl : (liftT m (m / n) x).length = cycD m := tab_length _ _
        have gs : GoodZ m (liftT m (m / n) x) := ⟨hl, smallL_within.1 s⟩
        show inF (m : Int) (liftT m (m / n) x) (n : Int) = _
        unfold inF
        rw [if_pos (isC_of (by omega) (by omega) hl s), Int.toNat_natCast, Int.toNat_natCast, if_pos ⟨by omega, c3⟩]
        rw [allF_true (fun a a1 a2 a3 => lift_kept h1 h2 (by omega) (by omega) c3 h5 gs a1 a2 a3) m 1 (by omega)]
      · exact absurd h (by decide)
    · exact absurd h (by decide)
  · exact absurd h (by decide)
end Go.Proofs.YtbgbokflmekhmaaGreat.F
/- Facts on the functions of the first layer: products by the other side. -/
namespace Go.Proofs.YtbgbokflmekhmaaGreat.F
open Go.RowKit Go.Proofs.YtbgbokflmekhmaaGreat.R
set_option linter.unusedVariables false
set_option linter.unusedSimpArgs false
section
variable {A : Type} (z : A)
theorem tab_getD {d : Nat} {g : Nat → Int} {m : Nat} (hm : m < d) : (tab d g).getD m 0 = g m := by
  have := tab_rd d g m hm
  unfold rd at this
  rwa [Int.toNat_natCast] at this
def okH (H : Nat → Int) : Nat → Nat → Bool
  | 0, _ => true
  | d + 1, m => decide (-10000000000000 ≤ H m ∧ H m ≤ 10000000000000) && okH H d (m + 1)
theorem okH_all {H : Nat → Int} : ∀ (d m : Nat), (∀ j, m ≤ j → j < m + d → -10000000000000 ≤ H j ∧ H j ≤ 10000000000000) → okH H d m = true
  | 0, m, _ => rfl
  | d + 1, m, h => by
    rw [okH, okH_all d (m + 1) (fun j h1 h2 => h j (by omega) (by omega)), decide_eq_true (h m (Nat.le_refl _) (by omega))]
    rfl
end
end Go.Proofs.YtbgbokflmekhmaaGreat.F
/- Facts on the functions of places: values of polynomials at a root, powers. -/
namespace Go.Proofs.YtbgbokflmekhmaaGreat.F
open Go.RowKit Go.Proofs.YtbgbokflmekhmaaGreat.R
set_option linter.unusedVariables false
set_option linter.unusedSimpArgs false
/-- The value at r, modulo p. -/
def horn (p r : Nat) : List Int → Int
  | [] => 0
  | a :: t => (horn p r t * r + a.tmod p) % p
theorem horn_bd {p : Nat} (h1 : 1 ≤ p) (r : Nat) : ∀ x : List Int, 0 ≤ horn p r x ∧ horn p r x < p
  | [] => by unfold horn; omega
  | a :: t => by
    unfold horn
    exact ⟨Int.emod_nonneg _ (by omega), Int.emod_lt_of_pos _ (by omega)⟩
theorem horn_step {p r : Nat} (h1 : 1 ≤ p) (h2 : p ≤ 1000) (hr : r ≤ 1000) (x : List Int) (a : Int) : (0 ≤ horn p r x * r ∧ horn p r x * r ≤ 1000000) ∧ -1000 < a.tmod p ∧ a.tmod p < 1000 := by
  obtain ⟨b1, b2⟩ := horn_bd h1 r x
  have t := tmod_lt (a := a) (n := (p : Int)) (by omega)
  refine ⟨?_, by omega, by omega⟩
  have := mul_bd (i := 100) (a := 0) (by omega) (by omega)
  obtain ⟨m, hm⟩ : ∃ m : Nat, horn p r x = m := ⟨(horn p r x).toNat, by omega⟩
  rw [hm, ← Int.natCast_mul]
  have := Nat.mul_le_mul (show m ≤ 1000 by omega) hr
  omega
section
variable {A : Type} (z : A)
end
end Go.Proofs.YtbgbokflmekhmaaGreat.F
/- Facts on the functions of places: powers. -/
namespace Go.Proofs.YtbgbokflmekhmaaGreat.F
open Go.RowKit Go.Proofs.YtbgbokflmekhmaaGreat.R
set_option linter.unusedVariables false
set_option linter.unusedSimpArgs false
theorem tmodN (m n : Nat) : Int.tmod (m : Int) (n : Int) = ((m % n : Nat) : Int) := by rw [Int.tmod_eq_emod_of_nonneg (by omega)]; rfl
theorem tdivN (m n : Nat) : Int.tdiv (m : Int) (n : Int) = ((m / n : Nat) : Int) := by rw [Int.tdiv_eq_ediv_of_nonneg (by omega)]; rfl
theorem pow_odd {p b c e : Nat} (h : e % 2 = 1) : (c * b % p) * (b * b % p) ^ (e / 2) % p = c * b ^ e % p := by
  have he : e = 2 * (e / 2) + 1 := by omega
  rw [Nat.mul_mod, Nat.mod_mod, ← Nat.pow_mod, ← Nat.mul_mod]
  congr 1
  rw [← Nat.pow_two, ← Nat.pow_mul, Nat.mul_assoc, Nat.mul_comm b, ← Nat.pow_succ]
  rw [show (2 * (e / 2)).succ = e by omega]
theorem pow_even {p b c e : Nat} (h : ¬ e % 2 = 1) : c * (b * b % p) ^ (e / 2) % p = c * b ^ e % p := by
  have he : e = 2 * (e / 2) := by omega
  rw [Nat.mul_mod, ← Nat.pow_mod, ← Nat.mul_mod]
  congr 1
  rw [← Nat.pow_two, ← Nat.pow_mul, ← he]
section
variable {A : Type} (z : A)
end
end Go.Proofs.YtbgbokflmekhmaaGreat.F
/- Facts on the functions of places: primes, roots. -/
namespace Go.Proofs.YtbgbokflmekhmaaGreat.F
open Go.RowKit Go.Proofs.YtbgbokflmekhmaaGreat.R
set_option linter.unusedVariables false
set_option linter.unusedSimpArgs false
def noDiv (p : Nat) : Nat → Nat → Bool
  | 0, _ => true
  | d + 1, q => if q * q ≤ p then (if p % q = 0 then false else noDiv p d (q + 1)) else true
def isP (p : Nat) : Bool := decide (3 ≤ p ∧ p ≤ 61) && noDiv p p 2
def rootsFrom (F : List Int) (p : Nat) : Nat → Nat → List Int
  | 0, _ => []
  | d + 1, r => if horn p r F = 0 then (r : Int) :: rootsFrom F p d (r + 1) else rootsFrom F p d (r + 1)
theorem rootsFrom_length (F : List Int) (p : Nat) : ∀ d r, (rootsFrom F p d r).length ≤ d
  | 0, r => Nat.le_refl _
  | d + 1, r => by
    have := rootsFrom_length F p d (r + 1)
    unfold rootsFrom
    split
    · rw [List.length_cons]; omega
    · omega
section
variable {A : Type} (z : A)
theorem isPrime_g {p : Nat} (hp : p ≤ 1000) {K0 : Bool → A} {K1 : A} : ∀ (d q k : Nat), q + d = p + 2 → 2 ≤ q → d + 1 ≤ k →
    impl_isPrime.g3 z k (p : Int) (q : Int) K0 K1 = bif noDiv p d q then K1 else K0 false
  | d, q, 0, _, _, hk => absurd hk (by omega)
  | 0, q, k + 1, hq, h2, hk => by
    have hq2 : 2 * q ≤ q * q := Nat.mul_le_mul_right q h2
    have hq3 : q * q ≤ 1002 * 1002 := Nat.mul_le_mul (by omega) (by omega)
    rw [impl_isPrime.g3, ← Int.natCast_mul, w64_id (by omega) (by omega), if_neg (by omega)]
    rfl
  | d + 1, q, k + 1, hq, h2, hk => by
    have hq3 : q * q ≤ 1002 * 1002 := Nat.mul_le_mul (by omega) (by omega)
    rw [impl_isPrime.g3, ← Int.natCast_mul, w64_id (by omega) (by omega), noDiv]
    by_cases c : q * q ≤ p
    · rw [if_pos (by omega), if_pos c, gd_ok z (by omega), tmodN]
      by_cases e : p % q = 0
      · rw [if_pos (by omega), if_pos e]; rfl
      · rw [if_neg (by omega), if_neg e, w64_up (by omega), isPrime_g hp d (q + 1) k (by omega) (by omega) (by omega)]
    · rw [if_neg (by omega), if_neg c]; rfl
theorem isPrime_eq {p : Nat} (hp : p ≤ 1000) (k : Nat) (hk : p + 5 ≤ k) (Φ : Bool → A) : impl_isPrime z k (p : Int) Φ = Φ (isP p) := by
  obtain ⟨k, rfl⟩ := le_ex (show 2 ≤ k by omega)
  simp only [impl_isPrime, step_succ]
  have h := isPrime_g z hp (K0 := Φ) (K1 := impl_within z (k + 1) (p : Int) 3 61 Φ) p 2 (k + 1) (by omega) (by omega) (by omega)
  refine Eq.trans h ?_
  rw [within_eq]
  unfold isP
  rw [show decide ((3 : Int) ≤ (p : Int) ∧ (p : Int) ≤ 61) = decide (3 ≤ p ∧ p ≤ 61) by
    by_cases c : 3 ≤ p ∧ p ≤ 61
    · rw [decide_eq_true c, decide_eq_true (by omega)]
    · rw [decide_eq_false c, decide_eq_false (by omega)]]
  cases noDiv p p 2 <;> simp
theorem prime03_g {p : Nat} (hp : p ≤ 1000) {K0 : Bool → A} {K1 : A} : ∀ (d q k : Nat), q + d = p + 2 → 2 ≤ q → d + 1 ≤ k →
    spec_l03Prime.g6 z k (p : Int) (q : Int) K0 K1 = bif noDiv p d q then K1 else K0 false
  | d, q, 0, _, _, hk => absurd hk (by omega)
  | 0, q, k + 1, hq, h2, hk => by
    have hq2 : 2 * q ≤ q * q := Nat.mul_le_mul_right q h2
    have hq3 : q * q ≤ 1002 * 1002 := Nat.mul_le_mul (by omega) (by omega)
    rw [spec_l03Prime.g6, ← Int.natCast_mul, w64_id (by omega) (by omega), if_neg (by omega)]
    rfl
  | d + 1, q, k + 1, hq, h2, hk => by
    have hq3 : q * q ≤ 1002 * 1002 := Nat.mul_le_mul (by omega) (by omega)
    rw [spec_l03Prime.g6, ← Int.natCast_mul, w64_id (by omega) (by omega), noDiv]
    by_cases c : q * q ≤ p
    · rw [if_pos (by omega), if_pos c, gd_ok z (by omega), tmodN]
      by_cases e : p % q = 0
      · rw [if_pos (by omega), if_pos e]; rfl
      · rw [if_neg (by omega), if_neg e, w64_up (by omega), prime03_g hp d (q + 1) k (by omega) (by omega) (by omega)]
    · rw [if_neg (by omega), if_neg c]; rfl
theorem prime03_eq {p : Nat} (hp : p ≤ 1000) (k : Nat) (hk : p + 5 ≤ k) (Φ : Bool → A) : spec_l03Prime z k (p : Int) Φ = Φ (isP p) := by
  obtain ⟨k, rfl⟩ := le_ex (show 2 ≤ k by omega)
  simp only [spec_l03Prime, step_succ]
  rw [in_eq]
  unfold isP
  by_cases c : 3 ≤ p ∧ p ≤ 61
  · rw [decide_eq_true c, decide_eq_true (show (3 : Int) ≤ (p : Int) ∧ (p : Int) ≤ 61 by omega), Bool.not_true, cond_false, Bool.true_and]
    have h := prime03_g z hp (K0 := Φ) (K1 := Φ true) p 2 (k + 1) (by omega) (by omega) (by omega)
    refine Eq.trans h ?_
    cases noDiv p p 2 <;> rfl
  · rw [decide_eq_false c, decide_eq_false (show ¬ ((3 : Int) ≤ (p : Int) ∧ (p : Int) ≤ 61) by omega)]
    rfl
end
end Go.Proofs.YtbgbokflmekhmaaGreat.F
/- Characters, plain: indices by primes, powers of roots of unity, sums of them. -/
namespace Go.Proofs.YtbgbokflmekhmaaGreat.F
open Go.RowKit Go.Proofs.YtbgbokflmekhmaaGreat.R
set_option linter.unusedVariables false
set_option linter.unusedSimpArgs false
def idxL : Nat → List Int
  | 3 => [-1, 0, 1]
  | 5 => [-1, 0, 1, 3, 2]
  | 7 => [-1, 0, 2, 1, 4, 5, 3]
  | 11 => [-1, 0, 1, 8, 2, 4, 9, 7, 3, 6, 5]
  | 13 => [-1, 0, 1, 4, 2, 9, 5, 11, 3, 8, 10, 7, 6]
  | 17 => [-1, 0, 14, 1, 12, 5, 15, 11, 10, 2, 3, 7, 13, 4, 9, 6, 8]
  | 19 => [-1, 0, 1, 13, 2, 16, 14, 6, 3, 8, 17, 12, 15, 5, 7, 11, 4, 10, 9]
  | 23 => [-1, 0, 2, 16, 4, 1, 18, 19, 6, 10, 3, 9, 20, 14, 21, 17, 8, 7, 12, 15, 5, 13, 11]
  | 29 => [-1, 0, 1, 5, 2, 22, 6, 12, 3, 10, 23, 25, 7, 18, 13, 27, 4, 21, 11, 9, 24, 17, 26, 20, 8, 16, 19, 15, 14]
  | 31 => [-1, 0, 24, 1, 18, 20, 25, 28, 12, 2, 14, 23, 19, 11, 22, 21, 6, 7, 26, 4, 8, 29, 17, 27, 13, 10, 5, 3, 16, 9, 15]
  | 37 => [-1, 0, 1, 26, 2, 23, 27, 32, 3, 16, 24, 30, 28, 11, 33, 13, 4, 7, 17, 35, 25, 22, 31, 15, 29, 10, 12, 6, 34, 21, 14, 9, 5, 20, 8, 19, 18]
  | 41 => [-1, 0, 26, 15, 12, 22, 1, 39, 38, 30, 8, 3, 27, 31, 25, 37, 24, 33, 16, 9, 34, 14, 29, 36, 13, 4, 17, 5, 11, 7, 23, 28, 10, 18, 19, 21, 2, 32, 35, 6, 20]
  | 43 => [-1, 0, 27, 1, 12, 25, 28, 35, 39, 2, 10, 30, 13, 32, 20, 26, 24, 38, 29, 19, 37, 36, 15, 16, 40, 8, 17, 3, 5, 41, 11, 34, 9, 31, 23, 18, 14, 7, 4, 33, 22, 6, 21]
  | 47 => [-1, 0, 18, 20, 36, 1, 38, 32, 8, 40, 19, 7, 10, 11, 4, 21, 26, 16, 12, 45, 37, 6, 25, 5, 28, 2, 29, 14, 22, 35, 39, 3, 44, 27, 34, 33, 30, 42, 17, 31, 9, 15, 24, 13, 43, 41, 23]
  | 53 => [-1, 0, 1, 17, 2, 47, 18, 14, 3, 34, 48, 6, 19, 24, 15, 12, 4, 10, 35, 37, 49, 31, 7, 39, 20, 42, 25, 51, 16, 46, 13, 33, 5, 23, 11, 9, 36, 30, 38, 41, 50, 45, 32, 22, 8, 29, 40, 44, 21, 28, 43, 27, 26]
  | 59 => [-1, 0, 1, 50, 2, 6, 51, 18, 3, 42, 7, 25, 52, 45, 19, 56, 4, 40, 43, 38, 8, 10, 26, 15, 53, 12, 46, 34, 20, 28, 57, 49, 5, 17, 41, 24, 44, 55, 39, 37, 9, 14, 11, 33, 27, 48, 16, 23, 54, 36, 13, 32, 47, 22, 35, 31, 21, 30, 29]
  | 61 => [-1, 0, 1, 6, 2, 22, 7, 49, 3, 12, 23, 15, 8, 40, 50, 28, 4, 47, 13, 26, 24, 55, 16, 57, 9, 44, 41, 18, 51, 35, 29, 59, 5, 21, 48, 11, 14, 39, 27, 46, 25, 54, 56, 43, 17, 34, 58, 20, 10, 38, 45, 53, 42, 33, 19, 37, 52, 32, 36, 31, 30]
  | _ => []
def rootT : Nat → Nat
  | 3 => 2
  | 5 => 2
  | 7 => 3
  | 11 => 2
  | 13 => 2
  | 17 => 3
  | 19 => 2
  | 23 => 5
  | 29 => 2
  | 31 => 3
  | 37 => 2
  | 41 => 6
  | 43 => 3
  | 47 => 5
  | 53 => 2
  | 59 => 2
  | 61 => 2
  | _ => 1
def primesN : List Nat := [3, 5, 7, 11, 13, 17, 19, 23, 29, 31, 37, 41, 43, 47, 53, 59, 61]
theorem isP_list : ((List.range 62).all fun p => !isP p || primesN.contains p) = true := by decide +kernel
theorem byP {P : Nat → Prop} (h3 : P 3) (h5 : P 5) (h7 : P 7) (h11 : P 11) (h13 : P 13) (h17 : P 17) (h19 : P 19) (h23 : P 23) (h29 : P 29) (h31 : P 31) (h37 : P 37) (h41 : P 41) (h43 : P 43) (h47 : P 47) (h53 : P 53) (h59 : P 59) (h61 : P 61) : ∀ p : Nat, isP p = true → P p := by
  intro p hp
  have hb : p < 62 := by
    unfold isP at hp
    simp only [Bool.and_eq_true, decide_eq_true_eq] at hp
    omega
  have h := List.all_eq_true.1 isP_list p (List.mem_range.2 hb)
  rw [hp] at h
  have h : p ∈ primesN := by simpa using h
  unfold primesN at h
  simp only [List.mem_cons, List.not_mem_nil, or_false] at h
  rcases h with rfl | rfl | rfl | rfl | rfl | rfl | rfl | rfl | rfl | rfl | rfl | rfl | rfl | rfl | rfl | rfl | rfl
  · exact h3
  · exact h5
  · exact h7
  · exact h11
  · exact h13
  · exact h17
  · exact h19
  · exact h23
  · exact h29
  · exact h31
  · exact h37
  · exact h41
  · exact h43
  · exact h47
  · exact h53
  · exact h59
  · exact h61
/-- The index of a number that p does not divide. -/
def ix (p x : Nat) : Nat := (rd (idxL p) (x : Int)).toNat
def idxOk (p : Nat) : Bool := decide ((idxL p).length = p) && (decide (rd (idxL p) (0 : Nat) = -1) && ((List.range p).all fun x => decide (x = 0) || (decide (rd (idxL p) (x : Nat) = ix p x) && (decide (ix p x < p - 1) && (decide (rootT p ^ ix p x % p = x) && (List.range (ix p x)).all fun j => decide (rootT p ^ j % p ≠ x))))))
theorem idx_all : ((List.range 62).all fun p => !isP p || idxOk p) = true := by decide +kernel
theorem isP_bd1 {p : Nat} (hp : isP p = true) : 3 ≤ p ∧ p ≤ 61 := by
  unfold isP at hp
  simp only [Bool.and_eq_true, decide_eq_true_eq] at hp
  exact hp.1
structure IdxFacts (p : Nat) : Prop where
  len : (idxL p).length = p
  zero : rd (idxL p) (0 : Nat) = -1
  rd : ∀ x, 1 ≤ x → x < p → rd (idxL p) (x : Nat) = ix p x
  lt : ∀ x, 1 ≤ x → x < p → ix p x < p - 1
  pow : ∀ x, 1 ≤ x → x < p → rootT p ^ ix p x % p = x
  least : ∀ x, 1 ≤ x → x < p → ∀ j, j < ix p x → rootT p ^ j % p ≠ x
theorem idx_facts {p : Nat} (hp : isP p = true) : IdxFacts p := by
  have hb := isP_bd1 hp
  have h := List.all_eq_true.1 idx_all p (List.mem_range.2 (by omega))
  rw [hp] at h
  simp only [Bool.not_true, Bool.false_or, idxOk, Bool.and_eq_true, decide_eq_true_eq] at h
  obtain ⟨h1, h2, h3⟩ := h
  have h4 : ∀ x, 1 ≤ x → x < p → (F.rd (idxL p) (x : Nat) = ix p x ∧ ix p x < p - 1 ∧ rootT p ^ ix p x % p = x ∧ ∀ j, j < ix p x → rootT p ^ j % p ≠ x) := by
    intro x h1 h2
    have h := List.all_eq_true.1 h3 x (List.mem_range.2 h2)
    rw [decide_eq_false (show ¬ x = 0 by omega), Bool.false_or] at h
    simp only [Bool.and_eq_true, decide_eq_true_eq] at h
    refine ⟨h.1, h.2.1, h.2.2.1, fun j hj => ?_⟩
    exact of_decide_eq_true (List.all_eq_true.1 h.2.2.2 j (List.mem_range.2 hj))
  exact ⟨h1, h2, fun x a b => (h4 x a b).1, fun x a b => (h4 x a b).2.1, fun x a b => (h4 x a b).2.2.1, fun x a b => (h4 x a b).2.2.2⟩
/-! ### Characters -/
def prB (p : Int) : Bool := decide (0 ≤ p) && isP p.toNat
theorem prB_nat {p : Int} (h : prB p = true) : ∃ q : Nat, p = q ∧ isP q = true := by
  simp only [prB, Bool.and_eq_true, decide_eq_true_eq] at h
  exact ⟨p.toNat, by omega, h.2⟩
theorem prB_of {p : Nat} (h : isP p = true) : prB (p : Int) = true := by
  simp only [prB, Bool.and_eq_true, decide_eq_true_eq, Int.toNat_natCast]
  exact ⟨by omega, h⟩
def isCh (p n k : Int) : Bool := prB p && ((decide (1 ≤ n ∧ n ≤ 16) && decide ((p - 1).tmod n = 0)) && decide (0 ≤ k ∧ k ≤ n - 1))
structure Ch (p n k : Nat) : Prop where
  pr : isP p = true
  n1 : 1 ≤ n
  n2 : n ≤ 16
  dvd : (p - 1) % n = 0
  lt : k < n
theorem isCh_nat {p n k : Int} (h : isCh p n k = true) : ∃ p' n' k' : Nat, p = p' ∧ n = n' ∧ k = k' ∧ Ch p' n' k' := by
  simp only [isCh, Bool.and_eq_true, decide_eq_true_eq] at h
  obtain ⟨h1, ⟨h2, h3⟩, h4⟩ := h
  obtain ⟨q, rfl, hq⟩ := prB_nat h1
  have hb := isP_bd1 hq
  refine ⟨q, n.toNat, k.toNat, rfl, by omega, by omega, hq, by omega, by omega, ?_, by omega⟩
  rw [show n = ((n.toNat : Nat) : Int) by omega, show (q : Int) - 1 = ((q - 1 : Nat) : Int) by omega, tmodN] at h3
  omega
theorem isCh_of {p n k : Nat} (h : Ch p n k) : isCh p n k = true := by
  have hb := isP_bd1 h.pr
  have := h.n1
  have := h.n2
  have := h.lt
  simp only [isCh, Bool.and_eq_true, decide_eq_true_eq]
  refine ⟨prB_of h.pr, ⟨by omega, ?_⟩, by omega⟩
  rw [show (p : Int) - 1 = ((p - 1 : Nat) : Int) by omega, tmodN, h.dvd]
  rfl
/-- The exponent at a number that p does not divide. -/
def exN (p n k x : Nat) : Nat := ix p x * k % n
/-- All exponents, -1 for 0. -/
def exL (p n k : Nat) : List Int := tab p fun x => if x = 0 then -1 else (exN p n k x : Int)
theorem exL_len (p n k : Nat) : (exL p n k).length = p := tab_length _ _
theorem exL_rd {p n k x : Nat} (hx : x < p) : rd (exL p n k) (x : Nat) = if x = 0 then -1 else (exN p n k x : Int) := tab_rd _ _ _ hx
theorem exN_lt {p n k x : Nat} (h1 : 1 ≤ n) : exN p n k x < n := Nat.mod_lt _ (by omega)
/-! ### Powers of z -/
def zT (n e : Nat) : List Int := tab (cycD n) fun m => cycW n m e
def nilT (n : Nat) : List Int := tab (cycD n) fun _ => 0
theorem zT_len (n e : Nat) : (zT n e).length = cycD n := tab_length _ _
theorem nilT_len (n : Nat) : (nilT n).length = cycD n := tab_length _ _
theorem zT_rd {n e m : Nat} (hm : m < cycD n) : rd (zT n e) (m : Nat) = cycW n m e := tab_rd _ _ _ hm
theorem zT_mod (n e : Nat) : zT n (e % n) = zT n e := tab_congr fun m _ => cycW_mod n m e
theorem zT_one {n : Nat} (h1 : 1 ≤ n) (h2 : n ≤ 16) (e : Nat) : within 1 (zT n e) := by
  intro j hj
  rw [zT_len] at hj
  rw [zT_rd hj]
  exact cycW_small (cyc_facts h1 h2) h1 j e
theorem zT_good {n : Nat} (h1 : 1 ≤ n) (h2 : n ≤ 16) (e : Nat) : GoodZ n (zT n e) :=
  ⟨zT_len n e, fun j hj => by have := zT_one h1 h2 e j hj; omega⟩
theorem nilT_good (n : Nat) : GoodZ n (nilT n) :=
  ⟨nilT_len n, fun j hj => by
    rw [nilT_len] at hj
    rw [nilT, tab_rd _ _ _ hj]
    omega⟩
theorem zT_bil {n : Nat} (h1 : 1 ≤ n) (h2 : n ≤ 16) (a b m : Nat) (hm : m < cycD n) : bil n (zT n a) (zT n b) m = cycW n m (a + b) := by
  unfold bil
  rw [zT_len, zT_len]
  have e : ∀ i, i < cycD n → sumF 0 (cycD n) (fun k => rd (zT n b) k * cycW n m (i + k)) = cycW n m (i + b) := by
    intro i hi
    rw [sumF_congr (g := fun k => cycW n k b * cycW n m (k + i)) _ 0 (fun k _ hk => by rw [zT_rd (by omega), Nat.add_comm i k]), cyc_mul h1 h2 b i m hm, Nat.add_comm]
  rw [sumF_congr (g := fun i => cycW n i a * cycW n m (i + b)) _ 0 (fun i _ hi => by rw [zT_rd (by omega), e i (by omega)]), cyc_mul h1 h2 a b m hm]
theorem zT_mul {n : Nat} (h1 : 1 ≤ n) (h2 : n ≤ 16) (a b : Nat) : tab (cycD n) (bil n (zT n a) (zT n b)) = zT n (a + b) := tab_congr fun m hm => zT_bil h1 h2 a b m hm
theorem zT_ok {n : Nat} (h1 : 1 ≤ n) (h2 : n ≤ 16) (a b : Nat) : okB n (zT n a) (zT n b) = true := by
  unfold okB
  rw [zT_mul h1 h2]
  exact good_small (zT_good h1 h2 _)
theorem zT_mulO {n : Nat} (h1 : 1 ≤ n) (h2 : n ≤ 16) (a b : Nat) : mulO n (zT n a) (zT n b) = some (zT n (a + b)) := by
  unfold mulO
  rw [if_pos (zT_ok h1 h2 a b), zT_mul h1 h2]
theorem zT_bar {n : Nat} (h1 : 1 ≤ n) (h2 : n ≤ 16) (e : Nat) : imT n (zT n e) (-1) = zT n (e * (n - 1)) := by
  rw [imT_neg h1, imT_nat h1 h2 (zT_good h1 h2 e)]
  refine tab_congr fun m hm => ?_
  unfold galN
  rw [zT_len, sumF_congr (g := fun i => cycW n i e * cycW n m (i * (n - 1))) _ 0 (fun i _ hi => by rw [zT_rd (by omega)]), cyc_gal h1 h2 (n - 1) (neg_tab n h1 h2).1 e m hm]
theorem nilT_bil {n : Nat} (x : List Int) (m : Nat) : bil n (nilT n) x m = 0 := by
  unfold bil
  refine (sumF_congr _ 0 fun i _ hi => ?_).trans (sumF_zero _ 0)
  rw [nilT_len] at hi
  rw [nilT, tab_rd _ _ _ (by omega), Int.zero_mul]
theorem nilT_bar {n : Nat} (h1 : 1 ≤ n) (h2 : n ≤ 16) : imT n (nilT n) (-1) = nilT n := by
  rw [imT_neg h1, imT_nat h1 h2 (nilT_good n)]
  refine tab_congr fun m hm => ?_
  unfold galN
  refine (sumF_congr _ 0 fun i _ hi => ?_).trans (sumF_zero _ 0)
  rw [nilT_len] at hi
  rw [nilT, tab_rd _ _ _ (by omega), Int.zero_mul]
/-- A list by what it tells against weights. -/
theorem acc_tab {D : Nat} {X : List Int} {S : (Nat → Int) → Int} (hl : X.length = D) (hw : Wrapped X) (h : ∀ w, Cg (dot X w) (S w)) : X = tab D fun m => wrap64 (S fun j => if m = j then 1 else 0) :=
  tab_ext hl fun m hm => by
    have := (h fun j => if m = j then 1 else 0).eq
    rw [dot_one X m (by omega), hw m (by omega)] at this
    exact this
theorem dot_zT {n e : Nat} {w : Nat → Int} : dot (zT n e) w = sumF 0 (cycD n) fun m => cycW n m e * w m := by
  unfold dot
  rw [zT_len]
  exact sumF_congr _ 0 fun m _ hm => by rw [zT_rd (by omega)]
/-- A sum of powers, of each exponent so many, against weights. -/
def chW (p n k : Nat) (T : Nat → Int) (w : Nat → Int) : Int := sumF 1 (p - 1) fun x => T x * w (exN p n k x)
/-- The sum of numbers times the values of a character. -/
def chT (p n k : Nat) (T : Nat → Int) : List Int := tab (cycD n) fun m => wrap64 (chW p n k T (cycW n m))
theorem chT_len (p n k : Nat) (T : Nat → Int) : (chT p n k T).length = cycD n := tab_length _ _
end Go.Proofs.YtbgbokflmekhmaaGreat.F
/- Characters by both sides: primes, orders, indices, exponents, values. -/
namespace Go.Proofs.YtbgbokflmekhmaaGreat.F
open Go.RowKit Go.Proofs.YtbgbokflmekhmaaGreat.R
set_option linter.unusedVariables false
set_option linter.unusedSimpArgs false
/-- Numbers at which the test for a prime is quick. -/
def PrOk (p : Int) : Prop := p ≤ 1000 ∨ p % 2 = 0
section
variable {A : Type} (z : A)
theorem isPrimeI_eq {p : Int} (h : PrOk p) (k : Nat) (hk : 1010 ≤ k) (Φ : Bool → A) : impl_isPrime z k p Φ = Φ (prB p) := by
  by_cases c0 : 0 ≤ p
  · by_cases c1 : p ≤ 1000
    · obtain ⟨q, rfl⟩ := Int.eq_ofNat_of_zero_le c0
      rw [isPrime_eq z (by omega) k (by omega)]
      congr 1
    · have h2 : p % 2 = 0 := h.resolve_left c1
      have e : prB p = false := by
        unfold prB isP
        rw [decide_eq_false (show ¬ (3 ≤ p.toNat ∧ p.toNat ≤ 61) by omega), Bool.false_and, Bool.and_false]
      obtain ⟨k, rfl⟩ := le_ex (show 2 ≤ k by omega)
      simp only [impl_isPrime, step_succ]
      rw [impl_isPrime.g3, w64_id (by omega) (by omega), if_pos (by omega), gd_ok z (by omega), if_pos (tmod_zero.2 h2), e]
  · have e : prB p = false := by
      unfold prB
      rw [decide_eq_false c0, Bool.false_and]
    obtain ⟨k, rfl⟩ := le_ex (show 2 ≤ k by omega)
    simp only [impl_isPrime, step_succ]
    rw [impl_isPrime.g3, w64_id (by omega) (by omega), if_neg (by omega), within_eq, decide_eq_false (by omega), e]
theorem prime03I_eq (p : Int) (k : Nat) (hk : 1010 ≤ k) (Φ : Bool → A) : spec_l03Prime z k p Φ = Φ (prB p) := by
  by_cases c : 3 ≤ p ∧ p ≤ 61
  · obtain ⟨q, rfl⟩ := Int.eq_ofNat_of_zero_le (show 0 ≤ p by omega)
    rw [prime03_eq z (by omega) k (by omega)]
    congr 1
  · obtain ⟨k, rfl⟩ := le_ex (show 2 ≤ k by omega)
    simp only [spec_l03Prime, step_succ]
    rw [in_eq, decide_eq_false c, Bool.not_false, cond_true]
    congr 1
    unfold prB isP
    by_cases c0 : 0 ≤ p
    · rw [decide_eq_false (show ¬ (3 ≤ p.toNat ∧ p.toNat ≤ 61) by omega), Bool.false_and, Bool.and_false]
    · rw [decide_eq_false c0, Bool.false_and]
theorem prB_bd {p : Int} (h : prB p = true) : 3 ≤ p ∧ p ≤ 61 := by
  obtain ⟨q, rfl, hq⟩ := prB_nat h
  have := isP_bd1 hq
  omega
theorem areOf_eq {p : Int} (h : PrOk p) (n : Int) (k : Nat) (hk : 1012 ≤ k) (Φ : Bool → A) : impl_areOf z k p n Φ = Φ (prB p && (decide (1 ≤ n ∧ n ≤ 16) && decide ((p - 1).tmod n = 0))) := by
  obtain ⟨k, rfl⟩ := le_ex (show 3 ≤ k by omega)
  simp only [impl_areOf, step_succ]
  rw [isPrimeI_eq z h _ (by omega)]
  cases e : prB p with
  | false => rfl
  | true =>
    have := prB_bd e
    rw [cond_true, isOrder_eq, Bool.true_and]
    by_cases c : 1 ≤ n ∧ n ≤ 16
    · rw [decide_eq_true c, cond_true, gd_ok z (by omega), w64_id (by omega) (by omega), Bool.true_and]
    · rw [decide_eq_false c]; rfl
theorem isCharacter_eq {p : Int} (h : PrOk p) (n x : Int) (k : Nat) (hk : 1013 ≤ k) (Φ : Bool → A) : impl_IsCharacter z k p n x Φ = Φ (isCh p n x) := by
  obtain ⟨k, rfl⟩ := le_ex (show 2 ≤ k by omega)
  simp only [impl_IsCharacter, step_succ]
  rw [areOf_eq z h n _ (by omega)]
  unfold isCh
  cases prB p with
  | false => rfl
  | true =>
    simp only [Bool.true_and]
    by_cases c : 1 ≤ n ∧ n ≤ 16
    · rw [decide_eq_true c, Bool.true_and]
      cases decide ((p - 1).tmod n = 0) with
      | false => rfl
      | true => rw [cond_true, within_eq, w64_id (by omega) (by omega), Bool.true_and]
    · rw [decide_eq_false c]; rfl
theorem order03_eq {p : Int} (hp : 3 ≤ p ∧ p ≤ 61) (n : Int) (k : Nat) (hk : 3 ≤ k) (Φ : Bool → A) : spec_l03Order z k p n Φ = Φ (decide (1 ≤ n ∧ n ≤ 16) && decide ((p - 1).tmod n = 0)) := by
  obtain ⟨k, rfl⟩ := le_ex (show 2 ≤ k by omega)
  simp only [spec_l03Order, step_succ]
  rw [in_eq]
  by_cases c : 1 ≤ n ∧ n ≤ 16
  · rw [decide_eq_true c, cond_true, gd_ok z (by omega), w64_id (by omega) (by omega), Bool.true_and]
  · rw [decide_eq_false c]; rfl
theorem is03_eq (p n x : Int) (k : Nat) (hk : 1013 ≤ k) (Φ : Bool → A) : spec_l03Is z k p n x Φ = Φ (isCh p n x) := by
  obtain ⟨k, rfl⟩ := le_ex (show 2 ≤ k by omega)
  simp only [spec_l03Is, step_succ]
  rw [prime03I_eq z p _ (by omega)]
  unfold isCh
  cases e : prB p with
  | false => rfl
  | true =>
    have := prB_bd e
    rw [cond_true, order03_eq z this n _ (by omega)]
    simp only [Bool.true_and]
    by_cases c : 1 ≤ n ∧ n ≤ 16
    · rw [decide_eq_true c, Bool.true_and]
      cases decide ((p - 1).tmod n = 0) with
      | false => rfl
      | true => rw [cond_true, in_eq, w64_id (by omega) (by omega), Bool.true_and]
    · rw [decide_eq_false c]; rfl
def pairC (p n x p' n' x' : Int) : Int := bif isCh p n x && isCh p' n' x' then (if p = p' ∧ n = n' then 0 else 2) else 1
theorem pairC_zero {p n x p' n' x' : Int} (h : pairC p n x p' n' x' = 0) : isCh p n x = true ∧ isCh p' n' x' = true ∧ p = p' ∧ n = n' := by
  unfold pairC at h
  cases c : isCh p n x with
  | false => rw [c] at h; simp at h
  | true => cases c' : isCh p' n' x' with
    | false => rw [c, c'] at h; simp at h
    | true =>
      rw [c, c'] at h
      simp only [Bool.and_true, cond_true] at h
      split at h
      · rename_i e; exact ⟨rfl, rfl, e.1, e.2⟩
      · omega
theorem pairCode_eq {p p' : Int} (h : PrOk p) (h' : PrOk p') (n x n' x' : Int) (k : Nat) (hk : 1014 ≤ k) (Φ : Int → A) : impl_pairCode z k p n x p' n' x' Φ = Φ (pairC p n x p' n' x') := by
  obtain ⟨k, rfl⟩ := le_ex (show 1 ≤ k by omega)
  simp only [impl_pairCode, step_succ]
  rw [isCharacter_eq z h n x _ (by omega), isCharacter_eq z h' n' x' _ (by omega)]
  unfold pairC
  cases isCh p n x with
  | false => rfl
  | true => cases isCh p' n' x' with
    | false => rfl
    | true =>
      simp only [Bool.not_true, cond_false, Bool.and_true, cond_true]
      by_cases c : p = p'
      · by_cases c2 : n = n'
        · rw [if_neg (by omega), if_neg (by omega), if_pos ⟨c, c2⟩]
        · rw [if_neg (by omega), if_pos c2, if_neg (fun e => c2 e.2)]
      · rw [if_pos c, if_neg (fun e => c e.1)]
theorem like03_eq (p p' n x n' x' : Int) (k : Nat) (hk : 1014 ≤ k) (Φ : Int → A) : spec_l03Like z k p n x p' n' x' Φ = Φ (pairC p n x p' n' x') := by
  obtain ⟨k, rfl⟩ := le_ex (show 1 ≤ k by omega)
  simp only [spec_l03Like, step_succ]
  rw [is03_eq z p n x _ (by omega), is03_eq z p' n' x' _ (by omega)]
  unfold pairC
  cases isCh p n x with
  | false => rfl
  | true => cases isCh p' n' x' with
    | false => rfl
    | true =>
      simp only [Bool.not_true, cond_false, Bool.and_true, cond_true]
      by_cases c : p = p'
      · by_cases c2 : n = n'
        · rw [if_neg (by omega), if_neg (by omega), if_pos ⟨c, c2⟩]
        · rw [if_neg (by omega), if_pos c2, if_neg (fun e => c2 e.2)]
      · rw [if_pos c, if_neg (fun e => c e.1)]
end
/-! ### Tables -/
theorem repeat_tab : ∀ p : Nat, isP p = true → ∀ (j : Nat) (A : Type) (z : A) (v : Int) (Φ : List Int → A), slices_Repeat_Sint64_int64 z (j + 100) [v] (p : Int) Φ = Φ (List.replicate p v) :=
  byP (fun _ _ _ _ _ => by kernel_rfl) (fun _ _ _ _ _ => by kernel_rfl) (fun _ _ _ _ _ => by kernel_rfl) (fun _ _ _ _ _ => by kernel_rfl) (fun _ _ _ _ _ => by kernel_rfl) (fun _ _ _ _ _ => by kernel_rfl) (fun _ _ _ _ _ => by kernel_rfl) (fun _ _ _ _ _ => by kernel_rfl) (fun _ _ _ _ _ => by kernel_rfl) (fun _ _ _ _ _ => by kernel_rfl) (fun _ _ _ _ _ => by kernel_rfl) (fun _ _ _ _ _ => by kernel_rfl) (fun _ _ _ _ _ => by kernel_rfl) (fun _ _ _ _ _ => by kernel_rfl) (fun _ _ _ _ _ => by kernel_rfl) (fun _ _ _ _ _ => by kernel_rfl) (fun _ _ _ _ _ => by kernel_rfl)
theorem indices_tab : ∀ p : Nat, isP p = true → ∀ (j : Nat) (A : Type) (z : A) (Φ : List Int → Int → A), impl_indices z (j + 200) (p : Int) Φ = Φ (idxL p) (rootT p : Int) :=
  byP (fun _ _ _ _ => by kernel_rfl) (fun _ _ _ _ => by kernel_rfl) (fun _ _ _ _ => by kernel_rfl) (fun _ _ _ _ => by kernel_rfl) (fun _ _ _ _ => by kernel_rfl) (fun _ _ _ _ => by kernel_rfl) (fun _ _ _ _ => by kernel_rfl) (fun _ _ _ _ => by kernel_rfl) (fun _ _ _ _ => by kernel_rfl) (fun _ _ _ _ => by kernel_rfl) (fun _ _ _ _ => by kernel_rfl) (fun _ _ _ _ => by kernel_rfl) (fun _ _ _ _ => by kernel_rfl) (fun _ _ _ _ => by kernel_rfl) (fun _ _ _ _ => by kernel_rfl) (fun _ _ _ _ => by kernel_rfl) (fun _ _ _ _ => by kernel_rfl)
theorem root_tab : ∀ p : Nat, isP p = true → ∀ (j : Nat) (A : Type) (z : A) (Φ : Int → A), spec_l03Root z (j + 200) (p : Int) Φ = Φ (rootT p : Int) :=
  byP (fun _ _ _ _ => by kernel_rfl) (fun _ _ _ _ => by kernel_rfl) (fun _ _ _ _ => by kernel_rfl) (fun _ _ _ _ => by kernel_rfl) (fun _ _ _ _ => by kernel_rfl) (fun _ _ _ _ => by kernel_rfl) (fun _ _ _ _ => by kernel_rfl) (fun _ _ _ _ => by kernel_rfl) (fun _ _ _ _ => by kernel_rfl) (fun _ _ _ _ => by kernel_rfl) (fun _ _ _ _ => by kernel_rfl) (fun _ _ _ _ => by kernel_rfl) (fun _ _ _ _ => by kernel_rfl) (fun _ _ _ _ => by kernel_rfl) (fun _ _ _ _ => by kernel_rfl) (fun _ _ _ _ => by kernel_rfl) (fun _ _ _ _ => by kernel_rfl)
section
variable {A : Type} (z : A) {p : Nat} (hp : isP p = true)
include hp
theorem indices_eq (k : Nat) (hk : 200 ≤ k) (Φ : List Int → Int → A) : impl_indices z k (p : Int) Φ = Φ (idxL p) (rootT p : Int) := by
  obtain ⟨k, rfl⟩ := le_ex hk
  exact indices_tab p hp k A z Φ
theorem root_eq (k : Nat) (hk : 200 ≤ k) (Φ : Int → A) : spec_l03Root z k (p : Int) Φ = Φ (rootT p : Int) := by
  obtain ⟨k, rfl⟩ := le_ex hk
  exact root_tab p hp k A z Φ
end
theorem ix_bd {p x : Nat} (hp : isP p = true) (h1 : 1 ≤ x) (h2 : x < p) : ix p x < 60 := by
  have := (idx_facts hp).lt x h1 h2
  have := isP_bd1 hp
  omega
theorem exN_def {p n k x : Nat} (hp : isP p = true) (h1 : 1 ≤ x) (h2 : x < p) (hn : n ≤ 16) (hk : k < n) : Int.tmod (w64 ((ix p x : Int) * (k : Int))) (n : Int) = (exN p n k x : Int) := by
  have h3 := ix_bd hp h1 h2
  have h4 : ix p x * k ≤ 60 * 16 := Nat.mul_le_mul (by omega) (by omega)
  rw [← Int.natCast_mul, w64_id (by omega) (by omega), tmodN]
  rfl
section
variable {A : Type} (z : A) {p n k' : Nat} (C : Ch p n k')
include C
theorem exp_g4 {K0 : List Int → A} : ∀ (d i k : Nat), i + d = p → d + 1 ≤ k →
    impl_exponents.g4 z k (p : Int) (i : Int) (n : Int) (k' : Int) (tab p fun x => if x = 0 then -1 else if x < i then (exN p n k' x : Int) else (ix p x : Int)) K0 = K0 (exL p n k')
  | d, i, 0, _, hk => absurd hk (by omega)
  | 0, i, k + 1, hi, hk => by
    rw [impl_exponents.g4, if_neg (by omega)]
    congr 1
    exact tab_congr fun x hx => by rw [if_pos (show x < i by omega)]
  | d + 1, i, k + 1, hi, hk => by
    have hb := isP_bd1 C.pr
    have hn := C.n1
    rw [impl_exponents.g4, if_pos (by omega), inI_at z (by rw [tab_length]; omega)]
    by_cases c : i = 0
    · subst c
      rw [if_neg (by omega), w64_up (by omega), show (tab p fun x => if x = 0 then -1 else if x < 0 then (exN p n k' x : Int) else (ix p x : Int)) = tab p fun x => if x = 0 then -1 else if x < 0 + 1 then (exN p n k' x : Int) else (ix p x : Int) from tab_congr fun x hx => by
        by_cases c : x = 0
        · rw [if_pos c, if_pos c]
        · rw [if_neg c, if_neg c, if_neg (by omega), if_neg (by omega)]]
      exact exp_g4 d (0 + 1) k (by omega) (by omega)
    · rw [if_pos (by omega), gd_ok z (by omega), inI_at z (by rw [tab_length]; omega), w64_up (by omega)]
      have e : (tab p fun x => if x = 0 then -1 else if x < i then (exN p n k' x : Int) else (ix p x : Int)).getD i 0 = (ix p i : Int) := by
        have := tab_rd p (fun x => if x = 0 then -1 else if x < i then (exN p n k' x : Int) else (ix p x : Int)) i (by omega)
        unfold rd at this
        rw [Int.toNat_natCast] at this
        rw [this, if_neg c, if_neg (by omega)]
      rw [e, exN_def C.pr (by omega) (by omega) C.n2 C.lt, tab_set, show (tab p fun m => if i = m then (exN p n k' i : Int) else if m = 0 then -1 else if m < i then (exN p n k' m : Int) else (ix p m : Int)) = tab p fun x => if x = 0 then -1 else if x < i + 1 then (exN p n k' x : Int) else (ix p x : Int) from tab_congr fun x hx => by
        by_cases c1 : i = x
        · subst c1; rw [if_pos rfl, if_neg c, if_pos (by omega)]
        · rw [if_neg c1]
          by_cases c2 : x = 0
          · rw [if_pos c2, if_pos c2]
          · rw [if_neg c2, if_neg c2]
            by_cases c3 : x < i
            · rw [if_pos c3, if_pos (by omega)]
            · rw [if_neg c3, if_neg (by omega)]]
      exact exp_g4 d (i + 1) k (by omega) (by omega)
theorem exponents_eq (k : Nat) (hk : 210 ≤ k) (Φ : List Int → A) : impl_exponents z k (p : Int) (n : Int) (k' : Int) Φ = Φ (exL p n k') := by
  obtain ⟨k, rfl⟩ := le_ex (show 1 ≤ k by omega)
  have I := idx_facts C.pr
  have hb := isP_bd1 C.pr
  simp only [impl_exponents, step_succ]
  rw [indices_eq z C.pr _ (by omega), I.len, show idxL p = tab p fun x => if x = 0 then -1 else if x < 0 then (exN p n k' x : Int) else (ix p x : Int) from tab_ext I.len fun x hx => by
    by_cases c : x = 0
    · subst c; rw [if_pos rfl, I.zero]
    · rw [if_neg c, if_neg (by omega), I.rd x (by omega) hx]]
  exact exp_g4 z C p 0 k (by omega) (by omega)
end
section
variable {A : Type} (z : A) {p : Nat} (hp : isP p = true)
include hp
theorem index_g4 {x : Nat} (h1 : 1 ≤ x) (h2 : x < p) {K0 : Int → A} : ∀ (d i k : Nat), i + d = ix p x → d + 1 ≤ k →
    spec_l03Index.g4 z k (p : Int) (x : Int) (rootT p : Int) ((rootT p ^ i % p : Nat) : Int) (i : Int) K0 = K0 (ix p x : Int)
  | d, i, 0, _, hk => absurd hk (by omega)
  | 0, i, k + 1, hi, hk => by
    have I := idx_facts hp
    rw [spec_l03Index.g4, if_neg (by rw [show i = ix p x by omega, I.pow x h1 h2]; simp), show i = ix p x by omega]
  | d + 1, i, k + 1, hi, hk => by
    have I := idx_facts hp
    have hb := isP_bd1 hp
    have h3 := ix_bd hp h1 h2
    have h4 := I.least x h1 h2 i (by omega)
    have h5 : rootT p ^ i % p < p := Nat.mod_lt _ (by omega)
    have h6 : rootT p ≤ 61 := by
      have : ((List.range 62).all fun p => decide (rootT p ≤ 61)) = true := by decide +kernel
      exact of_decide_eq_true (List.all_eq_true.1 this p (List.mem_range.2 (by omega)))
    have h7 : (rootT p ^ i % p) * rootT p ≤ 61 * 61 := Nat.mul_le_mul (by omega) h6
    rw [spec_l03Index.g4, if_pos (by omega), gd_ok z (by omega), ← Int.natCast_mul, w64_id (by omega) (by omega), tmodN, w64_up (by omega), show rootT p ^ i % p * rootT p % p = rootT p ^ (i + 1) % p by rw [Nat.mod_mul_mod, Nat.pow_succ]]
    exact index_g4 h1 h2 d (i + 1) k (by omega) (by omega)
theorem mod_bd {x : Int} (h : x % p ≠ 0) : 1 ≤ (x % p).toNat ∧ (x % p).toNat < p := by
  have hb := isP_bd1 hp
  have h1 := Int.emod_nonneg x (b := (p : Int)) (by omega)
  have h2 := Int.emod_lt_of_pos x (b := (p : Int)) (by omega)
  omega
theorem turn_eq (x : Int) : Int.tmod (w64 (Int.tmod x p + p)) p = x % p := by
  have hb := isP_bd1 hp
  obtain ⟨t1, t2⟩ := tmod_lt (a := x) (n := (p : Int)) (by omega)
  rw [w64_id (by omega) (by omega), Int.tmod_eq_emod_of_nonneg (by omega), Int.add_emod_right, tmod_emod]
theorem index03_eq {x : Int} (h : x % p ≠ 0) (k : Nat) (hk : 300 ≤ k) (Φ : Int → A) : spec_l03Index z k (p : Int) x Φ = Φ (ix p (x % p).toNat : Int) := by
  have hb := isP_bd1 hp
  obtain ⟨m1, m2⟩ := mod_bd hp h
  obtain ⟨k, rfl⟩ := le_ex (show 1 ≤ k by omega)
  simp only [spec_l03Index, step_succ]
  rw [root_eq z hp _ (by omega), gd_ok z (by omega), gd_ok z (by omega), turn_eq hp x]
  have h3 := ix_bd hp m1 m2
  have e := index_g4 z hp m1 m2 (K0 := Φ) (ix p (x % p).toNat) 0 k (by omega) (by omega)
  rw [Nat.pow_zero, Nat.mod_eq_of_lt (by omega), show (((x % p).toNat : Nat) : Int) = x % p by have := Int.emod_nonneg x (b := (p : Int)) (by omega); omega] at e
  exact e
end
/-- The exponent at any number, -1 for multiples of p. -/
def exI (p n k : Nat) (x : Int) : Int := if x % p = 0 then -1 else (exN p n k (x % p).toNat : Int)
/-- The value at any number. -/
def atT (p n k : Nat) (x : Int) : List Int := if x % p = 0 then nilT n else zT n (exN p n k (x % p).toNat)
theorem atT_len (p n k : Nat) (x : Int) : (atT p n k x).length = cycD n := by unfold atT; split; exact nilT_len n; exact zT_len n _
theorem atT_good {p n k : Nat} (h1 : 1 ≤ n) (h2 : n ≤ 16) (x : Int) : GoodZ n (atT p n k x) := by unfold atT; split; exact nilT_good n; exact zT_good h1 h2 _
section
variable {A : Type} (z : A)
theorem unitE_eq {n : Nat} (h1 : 1 ≤ n) (h2 : n ≤ 16) (e : Nat) (he : e ≤ 1000) (k : Nat) (hk : 300 ≤ k) (Φ : Int → List Int → A) : spec_l01Unit z k (n : Int) (e : Int) Φ = Φ n (zT n e) := by
  have hy : (w64 (Int.tmod (e : Int) (n : Int) + n)).tmod n = ((e % n : Nat) : Int) := by
    rw [tmodN, ← Int.natCast_add, w64_id (by omega) (by have := Nat.mod_lt e h1; omega), tmodN, Nat.add_mod_right, Nat.mod_mod]
  have hr := Nat.mod_lt e h1
  have hw : Wrapped ((List.replicate (e % n + 1) (0 : Int)).set (e % n) 1) := by
    have := (wrapped_zeros (e % n + 1)).set (e % n) 1
    rwa [wrap_id (by omega) (by omega)] at this
  obtain ⟨k, rfl⟩ := le_ex (show 1 ≤ k by omega)
  simp only [spec_l01Unit, step_succ]
  rw [gd_ok z (by omega), gd_ok z (by omega), hy, w64_up (by omega), mkI_at z (by omega), inI_at z (by rw [List.length_replicate]; omega)]
  refine Eq.trans (reduce_eq z h1 h2 (by rw [List.length_set, List.length_replicate]; omega) hw k (by rw [List.length_set, List.length_replicate]; omega) Φ) ?_
  congr 1
  refine tab_congr fun m hm => ?_
  rw [dot_set _ _ _ _ (by rw [List.length_replicate]; omega), dot_zeros, rd_nat _ _ (by rw [List.length_replicate]; omega), List.getElem_replicate]
  have := cycW_small (cyc_facts h1 h2) h1 m e
  rw [cycW_mod, wrap_id (by omega) (by omega)]
  omega
variable {p n k' : Nat} (C : Ch p n k')
include C
theorem exponent03_eq (x : Int) (k : Nat) (hk : 310 ≤ k) (Φ : Int → A) : spec_l03Exponent z k (p : Int) (n : Int) (k' : Int) x Φ = Φ (exI p n k' x) := by
  have hb := isP_bd1 C.pr
  have := C.n1
  obtain ⟨k, rfl⟩ := le_ex (show 1 ≤ k by omega)
  simp only [spec_l03Exponent, step_succ]
  rw [gd_ok z (by omega)]
  unfold exI
  by_cases c : x % p = 0
  · rw [if_pos (tmod_zero.2 c), if_pos c]
  · obtain ⟨m1, m2⟩ := mod_bd C.pr c
    rw [if_neg (fun e => c (tmod_zero.1 e)), if_neg c, index03_eq z C.pr c _ (by omega), gd_ok z (by omega), exN_def C.pr m1 m2 C.n2 C.lt]
theorem at03_eq (x : Int) (k : Nat) (hk : 320 ≤ k) (Φ : Int → List Int → A) : spec_l03At z k (p : Int) (n : Int) (k' : Int) x Φ = Φ n (atT p n k' x) := by
  have := C.n1
  have h2 := C.n2
  obtain ⟨k, rfl⟩ := le_ex (show 1 ≤ k by omega)
  simp only [spec_l03At, step_succ]
  rw [exponent03_eq z C x _ (by omega)]
  unfold exI atT
  by_cases c : x % p = 0
  · rw [if_pos c, if_pos c, if_pos (by omega), zero01_eq z C.n1 C.n2 _ (by omega), tab_zero]
    rfl
  · have := exN_lt (p := p) (k := k') (x := (x % p).toNat) C.n1
    rw [if_neg c, if_neg c, if_neg (by omega), unitE_eq z C.n1 C.n2 _ (by omega) _ (by omega)]
end
end Go.Proofs.YtbgbokflmekhmaaGreat.F
/- Sums over characters by both sides. -/
namespace Go.Proofs.YtbgbokflmekhmaaGreat.F
open Go.RowKit Go.Proofs.YtbgbokflmekhmaaGreat.R
set_option linter.unusedVariables false
set_option linter.unusedSimpArgs false
section
variable {A : Type} (z : A)
theorem withC_in {row : List Int} (hr : row.length ≤ 1000) (v : Int) {K0 : List Int → A} : ∀ (d c k : Nat) (o : List Int), c + d = row.length → o.length = row.length → d + 1 ≤ k →
    impl_field_with_c80.g10 z k v row (row.length : Int) (c : Int) o K0 = K0 (addIn row v 0 d c o)
  | d, c, 0, o, _, _, hk => absurd hk (by omega)
  | 0, c, k + 1, o, hc, ho, hk => by
    rw [impl_field_with_c80.g10, if_neg (by omega)]
    rfl
  | d + 1, c, k + 1, o, hc, ho, hk => by
    rw [impl_field_with_c80.g10, if_pos (by omega), inI_at z (by omega), inI_at z (by omega), inI_at z (by omega), w64_up (by omega), withC_in hr v d (c + 1) k _ (by omega) (by rw [List.length_set]; exact ho) (by omega)]
    rw [show addIn row v 0 (d + 1) c o = addIn row v 0 d (c + 1) (o.set c (w64 (o.getD c 0 + w64 (v * row.getD c 0)))) by rw [addIn, Nat.zero_add]; rfl]
theorem withC_g {n : Nat} (h1 : 1 ≤ n) (h2 : n ≤ 16) {x : List Int} (hx : x.length ≤ 100) {K0 : List Int → A} : ∀ (d i k : Nat) (o : List Int), i + d = x.length → o.length = cycD n → d + 20 ≤ k →
    impl_field_with_c80.g4 z k (n : Int) (cycP n) x (x.length : Int) (i : Int) o K0 = K0 (imIn n x (fun i => i % n) d i o)
  | d, i, 0, o, _, _, hk => absurd hk (by omega)
  | 0, i, k + 1, o, hi, ho, hk => by
    rw [impl_field_with_c80.g4, if_neg (by omega)]
    rfl
  | d + 1, i, k + 1, o, hi, ho, hk => by
    have q1 : i % n < n := Nat.mod_lt _ (by omega)
    have C := cyc_facts h1 h2
    obtain ⟨r1, r2, r3⟩ := cycRow_facts C h1 q1
    have := C.le12
    obtain ⟨j, rfl, hj⟩ := up (show d + 19 + 1 ≤ k by omega)
    rw [impl_field_with_c80.g4, if_pos (by omega), inI_at z (by omega)]
    simp only [impl_counted_1, step_succ]
    rw [around_eq z _ (by omega) (by omega), show (i : Int) % (n : Int) = ((i % n : Nat) : Int) by omega, inI_at z (by rw [C.lenP]; omega), w64_up (by omega)]
    refine Eq.trans (withC_in z (row := cycRow n (i % n)) (by omega) _ (cycRow n (i % n)).length 0 (j + 1) o (by omega) (by omega) (by omega)) ?_
    rw [r1]
    have hl := (addIn_length (cycRow n (i % n)) (rd x i) 0 (cycD n) 0 o).trans ho
    exact withC_g h1 h2 hx d (i + 1) (j + 1) _ (by omega) hl (by omega)
theorem counted_eq {n : Nat} (h1 : 1 ≤ n) (h2 : n ≤ 16) {x : List Int} (hx : x.length ≤ 100) (k : Nat) (hk : 330 ≤ k) (Φ : List Int → A) :
    impl_counted z k (n : Int) x Φ = Φ (tab (cycD n) fun m => wrap64 (dot x (cycW n m))) := by
  obtain ⟨k, rfl⟩ := le_ex (show 2 ≤ k by omega)
  have := le12 h1 h2
  simp only [impl_counted, step_succ]
  rw [field_eq z h1 h2 _ (by omega)]
  simp only [impl_field_with_c80, step_succ]
  rw [mkI_at z (by omega)]
  refine Eq.trans (withC_g z h1 h2 hx x.length 0 k _ (by omega) (by simp) (by omega)) ?_
  rw [imIn_tab (cyc_facts h1 h2) h1 x _ fun j hj => Nat.mod_lt _ (by omega)]
  congr 1
  refine tab_congr fun m hm => ?_
  unfold galQ dot
  rw [sumF_congr (g := fun i => rd x i * cycW n m i) _ 0 fun i _ _ => by rw [cycW_mod]]
end
/-! ### How often each exponent comes, by a table -/
def smIn (p n k : Nat) (T : List Int) : Nat → Nat → List Int → List Int
  | 0, _, L => L
  | d + 1, i, L => smIn p n k T d (i + 1) (if i = 0 then L else L.set (exN p n k i) (wrap64 (rd L (exN p n k i : Nat) + rd T i)))
theorem smIn_facts {p n k : Nat} (h1 : 1 ≤ n) (T : List Int) : ∀ (d i : Nat) (L : List Int), L.length = n → Wrapped L →
    (smIn p n k T d i L).length = n ∧ Wrapped (smIn p n k T d i L) ∧ ∀ w : Nat → Int, Cg (dot (smIn p n k T d i L) w) (dot L w + sumF i d fun x => if x = 0 then 0 else rd T x * w (exN p n k x))
  | 0, i, L, hl, hw => ⟨hl, hw, fun w => Cg.of (by show dot L w = dot L w + 0; omega)⟩
  | d + 1, i, L, hl, hw => by
    unfold smIn
    by_cases c : i = 0
    · rw [if_pos c]
      obtain ⟨a1, a2, a3⟩ := smIn_facts h1 T d (i + 1) L hl hw
      refine ⟨a1, a2, fun w => (a3 w).trans (Cg.of ?_)⟩
      have e : (sumF i (d + 1) fun x => if x = 0 then 0 else rd T x * w (exN p n k x)) = (if i = 0 then 0 else rd T i * w (exN p n k i)) + sumF (i + 1) d fun x => if x = 0 then 0 else rd T x * w (exN p n k x) := rfl
      rw [e, if_pos c]
      omega
    · rw [if_neg c]
      have hq : exN p n k i < L.length := by rw [hl]; exact exN_lt h1
      obtain ⟨a1, a2, a3⟩ := smIn_facts h1 T d (i + 1) (L.set (exN p n k i) (wrap64 (rd L (exN p n k i : Nat) + rd T i))) (by rw [List.length_set]; exact hl) (hw.set _ _)
      refine ⟨a1, a2, fun w => (a3 w).trans ?_⟩
      have e : (sumF i (d + 1) fun x => if x = 0 then 0 else rd T x * w (exN p n k x)) = (if i = 0 then 0 else rd T i * w (exN p n k i)) + sumF (i + 1) d fun x => if x = 0 then 0 else rd T x * w (exN p n k x) := rfl
      rw [e, if_neg c]
      exact ((dot_put L _ (rd T i) w hq).add (Cg.refl _)).trans (Cg.of (by omega))
section
variable {A : Type} (z : A) {p n k' : Nat} (C : Ch p n k')
include C
end
/-! ### Rows added up, one after the other -/
def accR (D : Nat) (Y : Nat → List Int) (v : Nat → Int) : Nat → Nat → List Int → List Int
  | 0, _, X => X
  | d + 1, i, X => accR D Y v d (i + 1) (addIn (Y i) (v i) 0 D 0 X)
theorem accR_facts {D : Nat} {Y : Nat → List Int} {v : Nat → Int} (hY : ∀ i, (Y i).length = D) : ∀ (d i : Nat) (X : List Int), X.length = D → Wrapped X →
    (accR D Y v d i X).length = D ∧ Wrapped (accR D Y v d i X) ∧ ∀ w : Nat → Int, Cg (dot (accR D Y v d i X) w) (dot X w + sumF i d fun x => v x * dot (Y x) w)
  | 0, i, X, hl, hw => ⟨hl, hw, fun w => Cg.of (by show dot X w = dot X w + 0; omega)⟩
  | d + 1, i, X, hl, hw => by
    obtain ⟨b1, b2, b3⟩ := addIn_facts (Y i) (v i) 0 D 0 X (by omega) hw
    obtain ⟨a1, a2, a3⟩ := accR_facts hY d (i + 1) (addIn (Y i) (v i) 0 D 0 X) (by omega) b2
    unfold accR
    refine ⟨a1, a2, fun w => (a3 w).trans ?_⟩
    have e : (sumF i (d + 1) fun x => v x * dot (Y x) w) = v i * dot (Y i) w + sumF (i + 1) d fun x => v x * dot (Y x) w := rfl
    have e2 : sumF 0 D (fun j => rd (Y i) j * w (0 + j)) = dot (Y i) w := by
      unfold dot
      rw [hY i]
      exact sumF_congr _ 0 fun j _ _ => by rw [Nat.zero_add]
    rw [e]
    have h := b3 w
    rw [e2] at h
    exact (h.add (Cg.refl _)).trans (Cg.of (by omega))
theorem accR_tab {D : Nat} {Y : Nat → List Int} {v : Nat → Int} (hY : ∀ i, (Y i).length = D) (d i : Nat) : accR D Y v d i (List.replicate D 0) = tab D fun m => wrap64 (sumF i d fun x => v x * rd (Y x) (m : Nat)) := by
  obtain ⟨a1, a2, a3⟩ := accR_facts hY d i (List.replicate D 0) (by simp) (wrapped_zeros D)
  rw [acc_tab (S := fun w => sumF i d fun x => v x * dot (Y x) w) a1 a2 (fun w => (a3 w).trans (Cg.of (by rw [dot_zeros, Int.zero_add])))]
  refine tab_congr fun m hm => ?_
  congr 1
  exact sumF_congr _ _ fun x _ _ => by rw [dot_one _ _ (by rw [hY]; exact hm)]
theorem atT_in {p n k x : Nat} (h1 : 1 ≤ x) (h2 : x < p) : atT p n k (x : Int) = zT n (exN p n k x) := by
  unfold atT
  have e : (x : Int) % (p : Int) = x := Int.emod_eq_of_lt (by omega) (by omega)
  rw [e, if_neg (by omega), Int.toNat_natCast]
/-- Summed rows of values are what is counted. -/
theorem accAt {p n k : Nat} {T : Nat → Int} : accR (cycD n) (fun x => atT p n k (x : Int)) T (p - 1) 1 (List.replicate (cycD n) 0) = chT p n k T := by
  rw [accR_tab (fun i => atT_len p n k _)]
  refine tab_congr fun m hm => ?_
  congr 1
  unfold chW
  exact sumF_congr _ _ fun x hx hx2 => by rw [atT_in (by omega) (by omega), zT_rd hm]
section
variable {A : Type} (z : A) {p n k' : Nat} (C : Ch p n k')
include C
end
theorem chT_congr {p n k : Nat} {T S : Nat → Int} (h : ∀ x, 1 ≤ x → x < p → T x = S x) : chT p n k T = chT p n k S := by
  refine tab_congr fun m hm => ?_
  congr 1
  exact sumF_congr _ _ fun x h1 h2 => by rw [h x (by omega) (by omega)]
def sum3 (p n k : Int) : Int × List Int × Int := if isCh p n k = true then (n, chT p.toNat n.toNat k.toNat fun _ => 1, 0) else (0, [], 1)
section
variable {A : Type} (z : A)
theorem chT_ones {p n k : Nat} : chT p n k (fun x => rd (List.replicate p 1) x) = chT p n k fun _ => 1 :=
  chT_congr fun x h1 h2 => by rw [rd_nat _ _ (by simpa using h2), List.getElem_replicate]
end
end Go.Proofs.YtbgbokflmekhmaaGreat.F
/- Characters by both sides: orthogonal sums, sums with tables, values, Legendre symbols, inverses. -/
namespace Go.Proofs.YtbgbokflmekhmaaGreat.F
open Go.RowKit Go.Proofs.YtbgbokflmekhmaaGreat.R
set_option linter.unusedVariables false
set_option linter.unusedSimpArgs false
def subN (n a b : Nat) : Nat := (a + (n - 1) * b) % n
theorem subN_int {n a b : Nat} (h1 : 1 ≤ n) : ((a : Int) - b) % n = (subN n a b : Int) := by
  unfold subN
  have e : ((a : Int) - b) % n = (((a + (n - 1) * b : Nat) : Int)) % n := by
    have e1 : ((a + (n - 1) * b : Nat) : Int) = ((a : Int) - b) + (n : Int) * b := by
      obtain ⟨m, rfl⟩ : ∃ m, n = m + 1 := ⟨n - 1, by omega⟩
      simp only [Nat.add_sub_cancel, Int.natCast_add, Int.natCast_mul, Int.add_mul]
      omega
    rw [e1, Int.add_mul_emod_self_left]
  rw [e]
  omega
theorem ex_sub (p n a b x : Nat) : (exN p n a x + exN p n b x * (n - 1)) % n = exN p n (subN n a b) x := by
  unfold exN subN
  rw [Nat.add_mod, Nat.mod_mod, Nat.mod_mul_mod, ← Nat.add_mod, Nat.mul_mod (ix p x), Nat.mod_mod, ← Nat.mul_mod]
  congr 1
  rw [Nat.mul_add, Nat.mul_comm (n - 1) b, ← Nat.mul_assoc]
def orth3 (p n a p' n' b : Int) : Int × List Int × Int := if pairC p n a p' n' b = 0 then (n, chT p.toNat n.toNat (subN n.toNat a.toNat b.toNat) fun _ => 1, 0) else (0, [], pairC p n a p' n' b)
theorem subN_ch {p n a b : Nat} (C : Ch p n a) : Ch p n (subN n a b) := ⟨C.pr, C.n1, C.n2, C.dvd, Nat.mod_lt _ (by have := C.n1; omega)⟩
section
variable {A : Type} (z : A)
theorem withPower_eq {n : Nat} (h1 : 1 ≤ n) (h2 : n ≤ 16) (p k v : Int) (m : Nat) (hm : 2 ≤ m) (Φ : Int → Int → Int → A) : impl_withPower z m p (n : Int) k v Φ = Φ p n (v % n) := by
  obtain ⟨m, rfl⟩ := le_ex hm
  simp only [impl_withPower, step_succ]
  rw [around_eq z _ (by omega) (by omega)]
variable {p n a b : Nat} (C : Ch p n a) (C' : Ch p n b)
include C C'
end
/-! ### Sums with tables -/
def with3 (T : List Int) (p n k : Int) : Int × List Int × Int := if isCh p n k = true then (if (T.length : Int) = p ∧ smallB 1000000 T = true then (n, chT p.toNat n.toNat k.toNat fun x => rd T x, 0) else (0, [], 2)) else (0, [], 1)
section
variable {A : Type} (z : A)
end
/-! ### Values -/
def at3 (p n k x : Int) : Int × List Int × Int := if isCh p n k = true then (if -1000000 ≤ x ∧ x ≤ 1000000 then (n, atT p.toNat n.toNat k.toNat x, 0) else (0, [], 2)) else (0, [], 1)
section
variable {A : Type} (z : A)
theorem characterAt_eq {p : Int} (h : PrOk p) (n k' x : Int) (k : Nat) (hk : 1200 ≤ k) (Φ : Int → List Int → Int → A) : impl_CharacterAt z k p n k' x Φ = Φ (at3 p n k' x).1 (at3 p n k' x).2.1 (at3 p n k' x).2.2 := by
  obtain ⟨k, rfl⟩ := le_ex (show 2 ≤ k by omega)
  simp only [impl_CharacterAt, step_succ]
  rw [isCharacter_eq z h n k' _ (by omega)]
  unfold at3
  cases e : isCh p n k' with
  | false => rfl
  | true =>
    rw [Bool.not_true, cond_false, if_pos rfl, within_eq]
    by_cases c : -1000000 ≤ x ∧ x ≤ 1000000
    · rw [decide_eq_true c, Bool.not_true, cond_false, if_pos c]
      obtain ⟨p, n, k', rfl, rfl, rfl, C⟩ := isCh_nat e
      have hb := isP_bd1 C.pr
      have h1 := C.n1
      have h2 := C.n2
      have m1 := Int.emod_nonneg x (b := (p : Int)) (by omega)
      have m2 := Int.emod_lt_of_pos x (b := (p : Int)) (by omega)
      rw [mkI_at z (by omega), exponents_eq z C _ (by omega), around_eq z _ (by omega) (by omega), inI_ok z (by omega) (by rw [exL_len]; omega)]
      have e : (exL p n k').getD (x % p).toNat 0 = if (x % p).toNat = 0 then -1 else (exN p n k' (x % p).toNat : Int) := by
        have := exL_rd (p := p) (n := n) (k := k') (x := (x % p).toNat) (by omega)
        unfold rd at this
        rwa [Int.toNat_natCast] at this
      rw [e]
      show _ = Φ n (atT p n k' x) 0
      unfold atT
      by_cases c0 : x % p = 0
      · rw [if_pos (show (x % (p : Int)).toNat = 0 by omega), if_neg (by omega), if_pos c0, counted_eq z h1 h2 (by simp; omega) _ (by omega)]
        congr 1
        refine tab_congr fun m hm => ?_
        rw [dot_zeros]
        exact wrap_zero
      · have hq := exN_lt (p := p) (k := k') (x := (x % p).toNat) h1
        rw [if_neg (show ¬ (x % (p : Int)).toNat = 0 by omega), if_pos (by omega), if_neg c0, inI_at z (by simpa using hq), counted_eq z h1 h2 (by simp; omega) _ (by omega)]
        congr 1
        refine tab_congr fun m hm => ?_
        rw [dot_set _ _ _ _ (by simpa using hq), dot_zeros, rd_nat _ _ (by simpa using hq), List.getElem_replicate]
        have := cycW_small (cyc_facts h1 h2) h1 m (exN p n k' (x % (p : Int)).toNat)
        rw [wrap_id (by omega) (by omega)]
        omega
    · rw [decide_eq_false c, Bool.not_false, cond_true, if_neg c]
end
/-! ### Legendre symbols -/
def hasRoot (p r : Nat) : Nat → Nat → Bool
  | 0, _ => false
  | d + 1, y => if y * y % p = r then true else hasRoot p r d (y + 1)
def legOk (p : Nat) : Bool := (List.range p).all fun r => decide (r = 0) || (hasRoot p r (p - 1) 1 == decide (ix p r % 2 = 0))
theorem leg_all : ((List.range 62).all fun p => !isP p || legOk p) = true := by decide +kernel
theorem leg_ok {p r : Nat} (hp : isP p = true) (h1 : 1 ≤ r) (h2 : r < p) : hasRoot p r (p - 1) 1 = decide (ix p r % 2 = 0) := by
  have hb := isP_bd1 hp
  have h := List.all_eq_true.1 leg_all p (List.mem_range.2 (by omega))
  rw [hp] at h
  have h := List.all_eq_true.1 (by simpa using h : legOk p = true) r (List.mem_range.2 h2)
  rw [decide_eq_false (show ¬ r = 0 by omega), Bool.false_or] at h
  exact eq_of_beq h
def leg2 (p x : Int) : Int × Int := if prB p = true ∧ -1000000 ≤ x ∧ x ≤ 1000000 then (if x % p = 0 then 0 else if ix p.toNat (x % p).toNat % 2 = 0 then 1 else -1, 0) else (0, 2)
section
variable {A : Type} (z : A)
end
/-! ### Inverses, even characters -/
def inv4 (p n k : Int) : Int × Int × Int × Int := if isCh p n k = true then (p, n, (-k) % n, 0) else (0, 0, 0, 1)
def even2 (p n k : Int) : Bool × Int := if isCh p n k = true then (decide (exN p.toNat n.toNat k.toNat (p.toNat - 1) = 0), 0) else (false, 1)
section
variable {A : Type} (z : A)
theorem inverse_eq {p : Int} (h : PrOk p) (n x : Int) (k : Nat) (hk : 1100 ≤ k) (Φ : Int → Int → Int → Int → A) : impl_InverseCharacter z k p n x Φ = Φ (inv4 p n x).1 (inv4 p n x).2.1 (inv4 p n x).2.2.1 (inv4 p n x).2.2.2 := by
  obtain ⟨k, rfl⟩ := le_ex (show 1 ≤ k by omega)
  simp only [impl_InverseCharacter, step_succ]
  rw [isCharacter_eq z h n x _ (by omega)]
  unfold inv4
  cases e : isCh p n x with
  | false => rfl
  | true =>
    obtain ⟨p, n, x, rfl, rfl, rfl, C⟩ := isCh_nat e
    have := C.lt
    have := C.n2
    rw [Bool.not_true, cond_false, if_pos rfl, withPower_eq z C.n1 C.n2 _ _ _ _ (by omega), w64_id (by omega) (by omega), Int.zero_sub]
theorem isEven_eq {p : Int} (h : PrOk p) (n x : Int) (k : Nat) (hk : 1100 ≤ k) (Φ : Bool → Int → A) : impl_IsEvenCharacter z k p n x Φ = Φ (even2 p n x).1 (even2 p n x).2 := by
  obtain ⟨k, rfl⟩ := le_ex (show 1 ≤ k by omega)
  simp only [impl_IsEvenCharacter, step_succ]
  rw [isCharacter_eq z h n x _ (by omega)]
  unfold even2
  cases e : isCh p n x with
  | false => rfl
  | true =>
    obtain ⟨p, n, x, rfl, rfl, rfl, C⟩ := isCh_nat e
    have hb := isP_bd1 C.pr
    rw [Bool.not_true, cond_false, if_pos rfl, exponents_eq z C _ (by omega), w64_id (by omega) (by omega), show (p : Int) - 1 = ((p - 1 : Nat) : Int) by omega, inI_at z (by rw [exL_len]; omega)]
    have e : (exL p n x).getD (p - 1) 0 = (exN p n x (p - 1) : Int) := by
      have := exL_rd (p := p) (n := n) (k := x) (x := p - 1) (by omega)
      unfold rd at this
      rw [Int.toNat_natCast, if_neg (by omega)] at this
      exact this
    rw [e]
    congr 1
    simp only [Int.toNat_natCast]
    congr 1
    apply propext
    omega
end
end Go.Proofs.YtbgbokflmekhmaaGreat.F
/- Characters: what is drawn. -/
namespace Go.Proofs.YtbgbokflmekhmaaGreat.F
open Go.RowKit Go.Proofs.YtbgbokflmekhmaaGreat.R
set_option linter.unusedVariables false
set_option linter.unusedSimpArgs false
section
variable {A : Type} (z : A)
theorem prime_list : ([3, 5, 7, 7, 11, 13, 13, 17, 19, 31, 37, 41, 43, 61] : List Int).all prB = true := by decide +kernel
theorem drawPrime03_eq {c : List Int} {i : Int} (hs : Src c i) (h : Int) : ∃ i' h' v, (Src c i' ∧ prB v = true) ∧ ∀ k, 3 ≤ k → ∀ Φ : List Int → Int → Int → Int → A, spec_l03DrawPrime z k c i h Φ = Φ c i' h' v := by
  obtain ⟨i1, h1, v, ⟨s1, hv⟩, e1⟩ := pick_eq z hs h [3, 5, 7, 7, 11, 13, 13, 17, 19, 31, 37, 41, 43, 61] (by simp)
  refine ⟨i1, h1, v, ⟨s1, List.all_eq_true.1 prime_list v hv⟩, fun k hk Φ => ?_⟩
  obtain ⟨k, rfl⟩ := le_ex (show 1 ≤ k by omega)
  simp only [spec_l03DrawPrime, step_succ]
  rw [e1 _ (by omega)]
theorem order_g4 {p : Nat} (hp : isP p = true) : ∀ (d i : Nat) (acc : List Int), i + d = 17 → 1 ≤ i → acc.length ≤ i → (∀ x ∈ acc, (1 ≤ x ∧ x ≤ 16) ∧ ((p : Int) - 1).tmod x = 0) → (acc = [] → i = 1) → ∃ L : List Int, (L ≠ [] ∧ ∀ x ∈ L, (1 ≤ x ∧ x ≤ 16) ∧ ((p : Int) - 1).tmod x = 0) ∧
    ∀ k, d + 1 ≤ k → ∀ K0 : List Int → A, spec_l03DrawOrder.g4 z k (p : Int) (i : Int) acc K0 = K0 L
  | 0, i, acc, hi, h1, hl, ha, he => ⟨acc, ⟨fun e => by have := he e; omega, ha⟩, fun k hk K0 => by
    obtain ⟨k, rfl⟩ := le_ex hk
    rw [spec_l03DrawOrder.g4, if_neg (by omega)]⟩
  | d + 1, i, acc, hi, h1, hl, ha, he => by
    have hb := isP_bd1 hp
    by_cases c : ((p : Int) - 1).tmod i = 0
    · obtain ⟨L, hL, e⟩ := order_g4 hp d (i + 1) (acc ++ [(i : Int)]) (by omega) (by omega) (by simp; omega) (fun x hx => by
        rcases List.mem_append.1 hx with h | h
        · exact ha x h
        · have := List.mem_singleton.1 h
          subst this
          exact ⟨by omega, c⟩) (fun e => by simp at e)
      refine ⟨L, hL, fun k hk K0 => ?_⟩
      obtain ⟨k, rfl, hk⟩ := up hk
      rw [spec_l03DrawOrder.g4, if_pos (by omega), gd_ok z (by omega), w64_id (by omega) (by omega), if_pos c, apI_ok z (by omega), w64_up (by omega), e k (by omega)]
    · obtain ⟨L, hL, e⟩ := order_g4 hp d (i + 1) acc (by omega) (by omega) (by omega) ha (fun e => by
        have := he e
        subst this
        simp at c)
      refine ⟨L, hL, fun k hk K0 => ?_⟩
      obtain ⟨k, rfl, hk⟩ := up hk
      rw [spec_l03DrawOrder.g4, if_pos (by omega), gd_ok z (by omega), w64_id (by omega) (by omega), if_neg c, w64_up (by omega), e k (by omega)]
theorem drawOrder03_eq {c : List Int} {i : Int} (hs : Src c i) (h : Int) {p : Nat} (hp : isP p = true) : ∃ i' h' v, (Src c i' ∧ (1 ≤ v ∧ v ≤ 16) ∧ ((p : Int) - 1).tmod v = 0) ∧ ∀ k, 20 ≤ k → ∀ Φ : List Int → Int → Int → Int → A, spec_l03DrawOrder z k c i h (p : Int) Φ = Φ c i' h' v := by
  obtain ⟨L, ⟨L1, L2⟩, e⟩ := order_g4 z hp 16 1 [] (by omega) (by omega) (by simp) (by simp) (fun _ => rfl)
  have hlp : 0 < L.length := List.length_pos_iff.2 L1
  obtain ⟨i1, h1, v, ⟨s1, v0, v1, _⟩, e1⟩ := next_eq z hs h (L.length : Int)
  have v2 := v1 (by omega)
  obtain ⟨j, rfl⟩ := Int.eq_ofNat_of_zero_le v0
  have hj : j < L.length := by omega
  refine ⟨i1, h1, L.getD j 0, ⟨s1, L2 _ (by rw [getD_at hj]; exact List.getElem_mem _)⟩, fun k hk Φ => ?_⟩
  obtain ⟨k, rfl⟩ := le_ex (show 1 ≤ k by omega)
  simp only [spec_l03DrawOrder, step_succ]
  have e2 := fun K0 => e k (by omega) K0
  rw [show ((1 : Nat) : Int) = 1 from rfl] at e2
  rw [e2, e1 _ (by omega), inI_at z hj]
theorem drawOf03_eq {c : List Int} {i : Int} (hs : Src c i) (h p : Int) {n : Int} (hn : 1 ≤ n) : ∃ i' h' v, (Src c i' ∧ 0 ≤ v ∧ v < n) ∧ ∀ k, 2 ≤ k → ∀ Φ : List Int → Int → Int → Int → Int → Int → A, spec_l03DrawOf z k c i h p n Φ = Φ c i' h' p n v := by
  obtain ⟨i1, h1, v, ⟨s1, v0, v1, _⟩, e1⟩ := next_eq z hs h n
  refine ⟨i1, h1, v, ⟨s1, v0, v1 hn⟩, fun k hk Φ => ?_⟩
  obtain ⟨k, rfl⟩ := le_ex (show 1 ≤ k by omega)
  simp only [spec_l03DrawOf, step_succ]
  rw [e1 _ (by omega)]
theorem isCh_mk {p n v : Int} (hp : prB p = true) (hn : 1 ≤ n ∧ n ≤ 16) (hd : (p - 1).tmod n = 0) (hv : 0 ≤ v ∧ v < n) : isCh p n v = true := by
  unfold isCh
  rw [hp, decide_eq_true hn, decide_eq_true hd, decide_eq_true (show 0 ≤ v ∧ v ≤ n - 1 by omega)]
  rfl
theorem draw03_eq {c : List Int} {i : Int} (hs : Src c i) (h : Int) : ∃ i' h' p n v, (Src c i' ∧ isCh p n v = true) ∧ ∀ k, 30 ≤ k → ∀ Φ : List Int → Int → Int → Int → Int → Int → A, spec_l03Draw z k c i h Φ = Φ c i' h' p n v := by
  obtain ⟨i1, h1, p, ⟨s1, hp⟩, e1⟩ := drawPrime03_eq z hs h
  obtain ⟨q, rfl, hq⟩ := prB_nat hp
  obtain ⟨i2, h2, n, ⟨s2, hn, hd⟩, e2⟩ := drawOrder03_eq z s1 h1 hq
  obtain ⟨i3, h3, v, ⟨s3, hv⟩, e3⟩ := drawOf03_eq z s2 h2 (q : Int) hn.1
  refine ⟨i3, h3, q, n, v, ⟨s3, isCh_mk hp hn hd hv⟩, fun k hk Φ => ?_⟩
  obtain ⟨k, rfl⟩ := le_ex (show 1 ≤ k by omega)
  simp only [spec_l03Draw, step_succ]
  rw [e1 _ (by omega), e2 _ (by omega), e3 _ (by omega)]
theorem ok_ch {p n v : Int} (h : isCh p n v = true) : PrOk p := by
  obtain ⟨p, n, v, rfl, rfl, rfl, C⟩ := isCh_nat h
  have := isP_bd1 C.pr
  exact .inl (by omega)
theorem bad03_eq {c : List Int} {i : Int} (hs : Src c i) (h : Int) {p : Int} (hp : PrOk p) (n x : Int) : ∃ i' h' p' n' x', (Src c i' ∧ PrOk p') ∧ ∀ k, 5 ≤ k → ∀ Φ : List Int → Int → Int → Int → Int → Int → A, spec_l03Bad z k c i h p n x Φ = Φ c i' h' p' n' x' := by
  obtain ⟨i1, h1', v, ⟨s1, v0, v1, _⟩, e1⟩ := next_eq z hs h 50
  by_cases c0 : v = 0
  · obtain ⟨i2, h2', u, ⟨s2, hu⟩, e2⟩ := pick_eq z s1 h1' [0, 2, 9, 67, 1099511627776] (by simp)
    refine ⟨i2, h2', u, n, x, ⟨s2, ?_⟩, fun k hk Φ => ?_⟩
    · simp only [List.mem_cons, List.not_mem_nil, or_false] at hu
      unfold PrOk
      omega
    · obtain ⟨k, rfl⟩ := le_ex (show 1 ≤ k by omega)
      simp only [spec_l03Bad, step_succ]
      rw [e1 _ (by omega), if_pos c0, e2 _ (by omega)]
  by_cases c1 : v = 1
  · obtain ⟨i2, h2', u, ⟨s2, hu⟩, e2⟩ := pick_eq z s1 h1' [0, 17, p, (-1)] (by simp)
    refine ⟨i2, h2', p, u, x, ⟨s2, hp⟩, fun k hk Φ => ?_⟩
    obtain ⟨k, rfl⟩ := le_ex (show 1 ≤ k by omega)
    simp only [spec_l03Bad, step_succ]
    rw [e1 _ (by omega), if_neg c0, if_pos c1, e2 _ (by omega)]
  by_cases c2 : v = 2
  · obtain ⟨i2, h2', u, ⟨s2, hu⟩, e2⟩ := pick_eq z s1 h1' [(-1), n] (by simp)
    refine ⟨i2, h2', p, n, u, ⟨s2, hp⟩, fun k hk Φ => ?_⟩
    obtain ⟨k, rfl⟩ := le_ex (show 1 ≤ k by omega)
    simp only [spec_l03Bad, step_succ]
    rw [e1 _ (by omega), if_neg c0, if_neg c1, if_pos c2, e2 _ (by omega)]
  · refine ⟨i1, h1', p, n, x, ⟨s1, hp⟩, fun k hk Φ => ?_⟩
    obtain ⟨k, rfl⟩ := le_ex (show 1 ≤ k by omega)
    simp only [spec_l03Bad, step_succ]
    rw [e1 _ (by omega), if_neg c0, if_neg c1, if_neg c2]
theorem spoil03_eq {c : List Int} {i : Int} (hs : Src c i) (h : Int) : ∃ i' h' p n x, (Src c i' ∧ PrOk p) ∧ ∀ k, 40 ≤ k → ∀ Φ : List Int → Int → Int → Int → Int → Int → A, spec_l03Spoil z k c i h Φ = Φ c i' h' p n x := by
  obtain ⟨i1, h1, p, n, v, ⟨s1, hp⟩, e1⟩ := draw03_eq z hs h
  obtain ⟨i2, h2, p', n', v', ⟨s2, hp'⟩, e2⟩ := bad03_eq z s1 h1 (ok_ch hp) n v
  refine ⟨i2, h2, p', n', v', ⟨s2, hp'⟩, fun k hk Φ => ?_⟩
  obtain ⟨k, rfl⟩ := le_ex (show 1 ≤ k by omega)
  simp only [spec_l03Spoil, step_succ]
  rw [e1 _ (by omega), e2 _ (by omega)]
theorem bad2_eq {c : List Int} {i : Int} (hs : Src c i) (h : Int) {p q : Int} (hp : PrOk p) (hq : PrOk q) (n x m y : Int) : ∃ p' n' x' q' m' y', (PrOk p' ∧ PrOk q') ∧ ∀ k, 5 ≤ k → ∀ Φ : Int → Int → Int → Int → Int → Int → A,
    (spec_l03Bad z k c i h p n x fun v1 v2 v3 v4 v5 v6 => spec_l03Bad z k v1 v2 v3 q m y fun v7 v8 v9 v10 v11 v12 => Φ v4 v5 v6 v10 v11 v12) = Φ p' n' x' q' m' y' := by
  obtain ⟨i1, h1, p', n', x', ⟨s1, hp'⟩, e1⟩ := bad03_eq z hs h hp n x
  obtain ⟨i2, h2, q', m', y', ⟨s2, hq'⟩, e2⟩ := bad03_eq z s1 h1 hq m y
  exact ⟨p', n', x', q', m', y', ⟨hp', hq'⟩, fun k hk Φ => by rw [e1 k hk, e2 k hk]⟩
theorem two03_eq {c : List Int} (hc : c.length ≤ 4096) (hb : ∀ x ∈ c, 0 ≤ x ∧ x ≤ 255) : ∃ p n x p' n' x', (PrOk p ∧ PrOk p') ∧ ∀ k, 5000 ≤ k → ∀ Φ : Int → Int → Int → Int → Int → Int → A, spec_l03Two z k c Φ = Φ p n x p' n' x' := by
  obtain ⟨h, i, s, e⟩ := from_eq z hc hb
  obtain ⟨i1, h1, p, n, v, ⟨s1, hp⟩, e1⟩ := draw03_eq z s h
  have hn : 1 ≤ n := by
    obtain ⟨p, n, v, rfl, rfl, rfl, C⟩ := isCh_nat hp
    have := C.n1
    omega
  have hp := ok_ch hp
  obtain ⟨i2, h2, w, ⟨s2, hw⟩, e2⟩ := drawOf03_eq z s1 h1 p hn
  obtain ⟨i3, h3, u, ⟨s3, u0, u1, _⟩, e3⟩ := next_eq z s2 h2 16
  by_cases c0 : u = 0
  · obtain ⟨i4, h4, q, m, y, ⟨s4, hq⟩, e4⟩ := draw03_eq z s3 h3
    obtain ⟨a, b, c', a', b', d', hh, e5⟩ := bad2_eq z s4 h4 hp (ok_ch hq) n v m y
    refine ⟨a, b, c', a', b', d', hh, fun k hk Φ => ?_⟩
    obtain ⟨k, rfl⟩ := le_ex (show 1 ≤ k by omega)
    simp only [spec_l03Two, step_succ]
    rw [e _ (by omega), e1 _ (by omega), e2 _ (by omega), e3 _ (by omega), if_pos c0, e4 _ (by omega), e5 _ (by omega)]
  by_cases c1 : u = 1
  · obtain ⟨a, b, c', a', b', d', hh, e5⟩ := bad2_eq z s3 h3 hp hp n v n v
    refine ⟨a, b, c', a', b', d', hh, fun k hk Φ => ?_⟩
    obtain ⟨k, rfl⟩ := le_ex (show 1 ≤ k by omega)
    simp only [spec_l03Two, step_succ]
    rw [e _ (by omega), e1 _ (by omega), e2 _ (by omega), e3 _ (by omega), if_neg c0, if_pos c1, if_pos c1, e5 _ (by omega)]
  by_cases c2 : u = 2
  · obtain ⟨a, b, c', a', b', d', hh, e5⟩ := bad2_eq z s3 h3 hp hp n v n v
    refine ⟨a, b, c', a', b', d', hh, fun k hk Φ => ?_⟩
    obtain ⟨k, rfl⟩ := le_ex (show 1 ≤ k by omega)
    simp only [spec_l03Two, step_succ]
    rw [e _ (by omega), e1 _ (by omega), e2 _ (by omega), e3 _ (by omega), if_neg c0, if_neg c1, if_pos c2, e5 _ (by omega)]
  · obtain ⟨a, b, c', a', b', d', hh, e5⟩ := bad2_eq z s3 h3 hp hp n v n w
    refine ⟨a, b, c', a', b', d', hh, fun k hk Φ => ?_⟩
    obtain ⟨k, rfl⟩ := le_ex (show 1 ≤ k by omega)
    simp only [spec_l03Two, step_succ]
    rw [e _ (by omega), e1 _ (by omega), e2 _ (by omega), e3 _ (by omega), if_neg c0, if_neg c1, if_neg c2, e5 _ (by omega)]
theorem drawMulCh_eq {c : List Int} (hc : c.length ≤ 4096) (hb : ∀ x ∈ c, 0 ≤ x ∧ x ≤ 255) : ∃ p n x p' n' x', (PrOk p ∧ PrOk p') ∧ ∀ k, 5001 ≤ k → ∀ Φ : Int → Int → Int → Int → Int → Int → A, spec_DrawMultiplyCharacters z k c Φ = Φ p n x p' n' x' := by
  obtain ⟨p, n, x, p', n', x', hh, e⟩ := two03_eq z hc hb
  refine ⟨p, n, x, p', n', x', hh, fun k hk Φ => ?_⟩
  obtain ⟨k, rfl⟩ := le_ex (show 1 ≤ k by omega)
  simp only [spec_DrawMultiplyCharacters, step_succ]
  rw [e _ (by omega)]
theorem fromSpoil_eq {c : List Int} (hc : c.length ≤ 4096) (hb : ∀ x ∈ c, 0 ≤ x ∧ x ≤ 255) : ∃ p n x, PrOk p ∧ ∀ k, 5000 ≤ k → ∀ Φ : Int → Int → Int → A, (spec_l01From z k c fun v1 v2 v3 => spec_l03Spoil z k v1 v2 v3 fun v4 v5 v6 v7 v8 v9 => Φ v7 v8 v9) = Φ p n x := by
  obtain ⟨h, i, s, e⟩ := from_eq z hc hb
  obtain ⟨i1, h1, p, n, v, ⟨s1, hp⟩, e1⟩ := spoil03_eq z s h
  exact ⟨p, n, v, hp, fun k hk Φ => by rw [e _ (by omega), e1 _ (by omega)]⟩
theorem drawExp_eq {c : List Int} (hc : c.length ≤ 4096) (hb : ∀ x ∈ c, 0 ≤ x ∧ x ≤ 255) : ∃ p n x, PrOk p ∧ ∀ k, 5001 ≤ k → ∀ Φ : Int → Int → Int → A, spec_DrawExponentsOf z k c Φ = Φ p n x := by
  obtain ⟨p, n, x, hp, e⟩ := fromSpoil_eq z hc hb
  refine ⟨p, n, x, hp, fun k hk Φ => ?_⟩
  obtain ⟨k, rfl⟩ := le_ex (show 1 ≤ k by omega)
  simp only [spec_DrawExponentsOf, step_succ]
  rw [e _ (by omega)]
theorem drawKernel_eq {c : List Int} (hc : c.length ≤ 4096) (hb : ∀ x ∈ c, 0 ≤ x ∧ x ≤ 255) : ∃ p n x, PrOk p ∧ ∀ k, 5001 ≤ k → ∀ Φ : Int → Int → Int → A, spec_DrawKernelOf z k c Φ = Φ p n x := by
  obtain ⟨p, n, x, hp, e⟩ := fromSpoil_eq z hc hb
  refine ⟨p, n, x, hp, fun k hk Φ => ?_⟩
  obtain ⟨k, rfl⟩ := le_ex (show 1 ≤ k by omega)
  simp only [spec_DrawKernelOf, step_succ]
  rw [e _ (by omega)]
theorem drawExact_eq {c : List Int} (hc : c.length ≤ 4096) (hb : ∀ x ∈ c, 0 ≤ x ∧ x ≤ 255) : ∃ p n x, PrOk p ∧ ∀ k, 5001 ≤ k → ∀ Φ : Int → Int → Int → A, spec_DrawExactOrder z k c Φ = Φ p n x := by
  obtain ⟨p, n, x, hp, e⟩ := fromSpoil_eq z hc hb
  refine ⟨p, n, x, hp, fun k hk Φ => ?_⟩
  obtain ⟨k, rfl⟩ := le_ex (show 1 ≤ k by omega)
  simp only [spec_DrawExactOrder, step_succ]
  rw [e _ (by omega)]
end
end Go.Proofs.YtbgbokflmekhmaaGreat.F
/- Characters by both sides: products, kernels, exact orders, exponents, indices, roots, all of a kind. -/
namespace Go.Proofs.YtbgbokflmekhmaaGreat.F
open Go.RowKit Go.Proofs.YtbgbokflmekhmaaGreat.R
set_option linter.unusedVariables false
set_option linter.unusedSimpArgs false
def mul4 (p n x p' n' x' : Int) : Int × Int × Int × Int := if pairC p n x p' n' x' = 0 then (p, n, (x + x') % n, 0) else (0, 0, 0, pairC p n x p' n' x')
def kerF (p n k : Nat) : Nat → Nat → List Int
  | 0, _ => []
  | d + 1, i => if i ≠ 0 ∧ exN p n k i = 0 then (i : Int) :: kerF p n k d (i + 1) else kerF p n k d (i + 1)
theorem kerF_len (p n k : Nat) : ∀ d i, (kerF p n k d i).length ≤ d
  | 0, i => Nat.le_refl _
  | d + 1, i => by
    have := kerF_len p n k d (i + 1)
    unfold kerF
    split
    · rw [List.length_cons]; omega
    · omega
def kerOk (p n k : Nat) : Bool := decide ((kerF p n k p 0).length * (n / Nat.gcd n k) = p - 1)
theorem ker_all : ((List.range 62).all fun p => !isP p || (List.range 17).all fun n => decide (n = 0) || (decide ((p - 1) % n ≠ 0) || (List.range n).all fun k => kerOk p n k)) = true := by decide +kernel
theorem ker_ok {p n k : Nat} (C : Ch p n k) : (kerF p n k p 0).length * (n / Nat.gcd n k) = p - 1 := by
  have hb := isP_bd1 C.pr
  have h1 := C.n1
  have h2 := C.n2
  have h := List.all_eq_true.1 ker_all p (List.mem_range.2 (by omega))
  rw [C.pr] at h
  have h := List.all_eq_true.1 (by simpa using h : ((List.range 17).all fun n => decide (n = 0) || (decide ((p - 1) % n ≠ 0) || (List.range n).all fun k => kerOk p n k)) = true) n (List.mem_range.2 (by omega))
  rw [decide_eq_false (show ¬ n = 0 by omega), decide_eq_false (show ¬ (p - 1) % n ≠ 0 by rw [C.dvd]; omega), Bool.false_or, Bool.false_or] at h
  exact of_decide_eq_true (List.all_eq_true.1 h k (List.mem_range.2 C.lt))
def ker2 (p n k : Int) : List Int × Int := if isCh p n k = true then (kerF p.toNat n.toNat k.toNat p.toNat 0, 0) else ([], 1)
def ord2 (p n k : Int) : Int × Int := if isCh p n k = true then (((n.toNat / Nat.gcd n.toNat k.toNat : Nat) : Int), 0) else (0, 1)
def exps2 (p n k : Int) : List Int × Int := if isCh p n k = true then (((exL p.toNat n.toNat k.toNat).drop 1).take (p.toNat - 1), 0) else ([], 1)
def idx2 (p x : Int) : Int × Int := if prB p = true ∧ 1 ≤ x ∧ x ≤ p - 1 then (ix p.toNat x.toNat, 0) else (0, 2)
def root2 (p : Int) : Int × Int := if prB p = true then (rootT p.toNat, 0) else (0, 2)
def chF (p n : Int) : Nat → Nat → List (Int × Int × Int)
  | 0, _ => []
  | d + 1, i => (p, (n, (i : Int))) :: chF p n d (i + 1)
def chars2 (p n : Int) : List (Int × Int × Int) × Int := if (prB p && (decide (1 ≤ n ∧ n ≤ 16) && decide ((p - 1).tmod n = 0))) = true then (chF p n n.toNat 0, 0) else ([], 2)
theorem exL_get {p n k x : Nat} (h1 : x ≠ 0) (h2 : x < p) : (exL p n k).getD x 0 = (exN p n k x : Int) := by
  have := exL_rd (p := p) (n := n) (k := k) (x := x) h2
  unfold rd at this
  rwa [Int.toNat_natCast, if_neg h1] at this
theorem exL_zero {p n k : Nat} (h : 0 < p) : (exL p n k).getD 0 0 = -1 := by
  have := exL_rd (p := p) (n := n) (k := k) (x := 0) h
  unfold rd at this
  rwa [if_pos rfl] at this
theorem exI_in {p n k x : Nat} (h1 : 1 ≤ x) (h2 : x < p) : exI p n k (x : Int) = (exN p n k x : Int) := by
  unfold exI
  have e : (x : Int) % (p : Int) = x := Int.emod_eq_of_lt (by omega) (by omega)
  rw [e, if_neg (by omega), Int.toNat_natCast]
section
variable {A : Type} (z : A)
theorem mulCh_eq {p p' : Int} (h : PrOk p) (h' : PrOk p') (n x n' x' : Int) (k : Nat) (hk : 1100 ≤ k) (Φ : Int → Int → Int → Int → A) :
    impl_MultiplyCharacters z k p n x p' n' x' Φ = Φ (mul4 p n x p' n' x').1 (mul4 p n x p' n' x').2.1 (mul4 p n x p' n' x').2.2.1 (mul4 p n x p' n' x').2.2.2 := by
  obtain ⟨k, rfl⟩ := le_ex (show 1 ≤ k by omega)
  simp only [impl_MultiplyCharacters, step_succ]
  rw [pairCode_eq z h h' _ _ _ _ _ (by omega)]
  unfold mul4
  by_cases c : pairC p n x p' n' x' = 0
  · obtain ⟨c1, c2, rfl, rfl⟩ := pairC_zero c
    rw [if_neg (by omega), if_pos c]
    obtain ⟨p, n, x, rfl, rfl, rfl, C⟩ := isCh_nat c1
    obtain ⟨_, _, x', e1, e2, rfl, C'⟩ := isCh_nat c2
    have := C.lt
    have := C.n2
    have := C'.lt
    rw [withPower_eq z C.n1 C.n2 _ _ _ _ (by omega), w64_id (by omega) (by omega)]
  · rw [if_pos c, if_neg c]
theorem specMulCh_eq (p p' n x n' x' : Int) (k : Nat) (hk : 1100 ≤ k) (Φ : Int → Int → Int → Int → A) :
    spec_MultiplyCharacters z k p n x p' n' x' Φ = Φ (mul4 p n x p' n' x').1 (mul4 p n x p' n' x').2.1 (mul4 p n x p' n' x').2.2.1 (mul4 p n x p' n' x').2.2.2 := by
  obtain ⟨k, rfl⟩ := le_ex (show 2 ≤ k by omega)
  simp only [spec_MultiplyCharacters, step_succ]
  rw [like03_eq z _ _ _ _ _ _ _ (by omega)]
  unfold mul4
  by_cases c : pairC p n x p' n' x' = 0
  · obtain ⟨c1, c2, rfl, rfl⟩ := pairC_zero c
    rw [if_neg (by omega), if_pos c]
    obtain ⟨p, n, x, rfl, rfl, rfl, C⟩ := isCh_nat c1
    obtain ⟨_, _, x', e1, e2, rfl, C'⟩ := isCh_nat c2
    have := C.lt
    have := C.n1
    have := C.n2
    have := C'.lt
    simp only [spec_l03Times, step_succ]
    rw [gd_ok z (by omega), w64_id (by omega) (by omega), Int.tmod_eq_emod_of_nonneg (by omega)]
  · rw [if_pos c, if_neg c]
theorem ker_g7 {p n k' : Nat} (C : Ch p n k') {K0 : List Int → A} : ∀ (d i k : Nat) (acc : List Int), i + d = p → acc.length ≤ i → d + 1 ≤ k →
    impl_KernelOf.g7 z k (p : Int) (i : Int) acc (exL p n k') K0 = K0 (acc ++ kerF p n k' d i)
  | d, i, 0, acc, _, _, hk => absurd hk (by omega)
  | 0, i, k + 1, acc, hi, hl, hk => by
    rw [impl_KernelOf.g7, if_neg (by omega), kerF, List.append_nil]
  | d + 1, i, k + 1, acc, hi, hl, hk => by
    have hb := isP_bd1 C.pr
    rw [impl_KernelOf.g7, if_pos (by omega), inI_at z (by rw [exL_len]; omega), w64_up (by omega), kerF]
    by_cases c0 : i = 0
    · subst c0
      rw [exL_zero (by omega), if_neg (by omega), if_neg (fun h => h.1 rfl)]
      exact ker_g7 C d (0 + 1) k acc (by omega) (by omega) (by omega)
    · rw [exL_get c0 (by omega)]
      by_cases c1 : exN p n k' i = 0
      · rw [if_pos (by omega), if_pos ⟨c0, c1⟩, apI_ok z (by omega), ker_g7 C d (i + 1) k _ (by omega) (by simp; omega) (by omega), List.append_assoc]
        rfl
      · rw [if_neg (by omega), if_neg (fun h => c1 h.2), ker_g7 C d (i + 1) k _ (by omega) (by omega) (by omega)]
theorem kernelOf_eq {p : Int} (h : PrOk p) (n x : Int) (k : Nat) (hk : 1100 ≤ k) (Φ : List Int → Int → A) : impl_KernelOf z k p n x Φ = Φ (ker2 p n x).1 (ker2 p n x).2 := by
  obtain ⟨k, rfl⟩ := le_ex (show 1 ≤ k by omega)
  simp only [impl_KernelOf, step_succ]
  rw [isCharacter_eq z h n x _ (by omega)]
  unfold ker2
  cases e : isCh p n x with
  | false => rfl
  | true =>
    obtain ⟨p, n, x, rfl, rfl, rfl, C⟩ := isCh_nat e
    have hb := isP_bd1 C.pr
    rw [Bool.not_true, cond_false, if_pos rfl, exponents_eq z C _ (by omega), exL_len]
    exact ker_g7 z C p 0 k [] (by omega) (by simp) (by omega)
theorem ker03_g7 {p n k' : Nat} (C : Ch p n k') {K0 : List Int → A} : ∀ (d i k : Nat) (acc : List Int), 1 ≤ i → i + d = p → acc.length ≤ i → d + 320 ≤ k →
    spec_KernelOf.g7 z k (i : Int) (p : Int) (n : Int) (k' : Int) acc K0 = K0 (acc ++ kerF p n k' d i)
  | d, i, 0, acc, _, _, _, hk => absurd hk (by omega)
  | 0, i, k + 1, acc, h1, hi, hl, hk => by
    rw [spec_KernelOf.g7, if_neg (by omega), kerF, List.append_nil]
  | d + 1, i, k + 1, acc, h1, hi, hl, hk => by
    have hb := isP_bd1 C.pr
    rw [spec_KernelOf.g7, if_pos (by omega), exponent03_eq z C _ _ (by omega), exI_in h1 (by omega), w64_up (by omega), kerF]
    by_cases c1 : exN p n k' i = 0
    · rw [if_pos (by omega), if_pos ⟨by omega, c1⟩, apI_ok z (by omega), ker03_g7 C d (i + 1) k _ (by omega) (by omega) (by simp; omega) (by omega), List.append_assoc]
      rfl
    · rw [if_neg (by omega), if_neg (fun h => c1 h.2), ker03_g7 C d (i + 1) k _ (by omega) (by omega) (by omega) (by omega)]
theorem specKernelOf_eq (p n x : Int) (k : Nat) (hk : 1100 ≤ k) (Φ : List Int → Int → A) : spec_KernelOf z k p n x Φ = Φ (ker2 p n x).1 (ker2 p n x).2 := by
  obtain ⟨k, rfl⟩ := le_ex (show 1 ≤ k by omega)
  simp only [spec_KernelOf, step_succ]
  rw [is03_eq z p n x _ (by omega)]
  unfold ker2
  cases e : isCh p n x with
  | false => rfl
  | true =>
    obtain ⟨p, n, x, rfl, rfl, rfl, C⟩ := isCh_nat e
    have hb := isP_bd1 C.pr
    rw [Bool.not_true, cond_false, if_pos rfl]
    refine Eq.trans (ker03_g7 z C (p - 1) 1 k [] (by omega) (by omega) (by simp) (by omega)) ?_
    have e2 : kerF p n x p 0 = kerF p n x (p - 1) 1 := by
      obtain ⟨q, rfl⟩ : ∃ q, p = q + 1 := ⟨p - 1, by omega⟩
      rw [kerF, if_neg (fun h => h.1 rfl)]
      rfl
    simp only [Int.toNat_natCast]
    rw [e2]
    rfl
theorem exactOrder_eq {p : Int} (h : PrOk p) (n x : Int) (k : Nat) (hk : 1100 ≤ k) (Φ : Int → Int → A) : impl_ExactOrder z k p n x Φ = Φ (ord2 p n x).1 (ord2 p n x).2 := by
  obtain ⟨k, rfl⟩ := le_ex (show 1 ≤ k by omega)
  simp only [impl_ExactOrder, step_succ]
  rw [isCharacter_eq z h n x _ (by omega)]
  unfold ord2
  cases e : isCh p n x with
  | false => rfl
  | true =>
    obtain ⟨p, n, x, rfl, rfl, rfl, C⟩ := isCh_nat e
    have := C.n1
    have := C.n2
    have := C.lt
    have hg : 0 < Nat.gcd n x := Nat.gcd_pos_of_pos_left _ (by omega)
    have hd := Nat.div_le_self n (Nat.gcd n x)
    rw [Bool.not_true, cond_false, if_pos rfl, igcd_eq z (by omega) (by omega) _ (by omega), Int.gcd_natCast_natCast, gd_ok z (by omega), tdivN, w64_id (x := ((n / Nat.gcd n x : Nat) : Int)) (Int.le_trans (by omega) (Int.natCast_nonneg _)) (Int.le_trans (Int.ofNat_le.2 hd) (by omega))]
    rfl
theorem specExactOrder_eq (p n x : Int) (k : Nat) (hk : 1100 ≤ k) (Φ : Int → Int → A) : spec_ExactOrder z k p n x Φ = Φ (ord2 p n x).1 (ord2 p n x).2 := by
  obtain ⟨k, rfl⟩ := le_ex (show 1 ≤ k by omega)
  simp only [spec_ExactOrder, step_succ]
  rw [is03_eq z p n x _ (by omega)]
  unfold ord2
  cases e : isCh p n x with
  | false => rfl
  | true =>
    obtain ⟨p, n, x, rfl, rfl, rfl, C⟩ := isCh_nat e
    have := C.n1
    have := C.n2
    have := C.lt
    have hg : 0 < Nat.gcd n x := Nat.gcd_pos_of_pos_left _ (by omega)
    have hd := Nat.div_le_self n (Nat.gcd n x)
    rw [Bool.not_true, cond_false, if_pos rfl, sgcd_eq z (by omega) (by omega) _ (by omega), Int.gcd_natCast_natCast, gd_ok z (by omega), tdivN, w64_id (x := ((n / Nat.gcd n x : Nat) : Int)) (Int.le_trans (by omega) (Int.natCast_nonneg _)) (Int.le_trans (Int.ofNat_le.2 hd) (by omega))]
    rfl
theorem exponentsOf_eq {p : Int} (h : PrOk p) (n x : Int) (k : Nat) (hk : 1100 ≤ k) (Φ : List Int → Int → A) : impl_ExponentsOf z k p n x Φ = Φ (exps2 p n x).1 (exps2 p n x).2 := by
  obtain ⟨k, rfl⟩ := le_ex (show 1 ≤ k by omega)
  simp only [impl_ExponentsOf, step_succ]
  rw [isCharacter_eq z h n x _ (by omega)]
  unfold exps2
  cases e : isCh p n x with
  | false => rfl
  | true =>
    obtain ⟨p, n, x, rfl, rfl, rfl, C⟩ := isCh_nat e
    have hb := isP_bd1 C.pr
    rw [Bool.not_true, cond_false, if_pos rfl, exponents_eq z C _ (by omega), exL_len, toI_ok z (by omega) (by omega)]
    rfl
theorem exps03_g7 {p n k' : Nat} (C : Ch p n k') {K0 : List Int → A} : ∀ (d i k : Nat) (acc : List Int), 1 ≤ i → i + d = p → acc.length ≤ i → d + 320 ≤ k →
    spec_ExponentsOf.g7 z k (i : Int) (p : Int) (n : Int) (k' : Int) acc K0 = K0 (acc ++ (exL p n k').drop i)
  | d, i, 0, acc, _, _, _, hk => absurd hk (by omega)
  | 0, i, k + 1, acc, h1, hi, hl, hk => by
    rw [spec_ExponentsOf.g7, if_neg (by omega), List.drop_eq_nil_of_le (by rw [exL_len]; omega), List.append_nil]
  | d + 1, i, k + 1, acc, h1, hi, hl, hk => by
    have hb := isP_bd1 C.pr
    rw [spec_ExponentsOf.g7, if_pos (by omega), exponent03_eq z C _ _ (by omega), exI_in h1 (by omega), w64_up (by omega), apI_ok z (by omega), exps03_g7 C d (i + 1) k _ (by omega) (by omega) (by simp; omega) (by omega), List.append_assoc,
      drop_cons (l := exL p n k') (i := i) (by rw [exL_len]; omega), exL_get (by omega) (by omega)]
    rfl
theorem specExponentsOf_eq (p n x : Int) (k : Nat) (hk : 1100 ≤ k) (Φ : List Int → Int → A) : spec_ExponentsOf z k p n x Φ = Φ (exps2 p n x).1 (exps2 p n x).2 := by
  obtain ⟨k, rfl⟩ := le_ex (show 1 ≤ k by omega)
  simp only [spec_ExponentsOf, step_succ]
  rw [is03_eq z p n x _ (by omega)]
  unfold exps2
  cases e : isCh p n x with
  | false => rfl
  | true =>
    obtain ⟨p, n, x, rfl, rfl, rfl, C⟩ := isCh_nat e
    have hb := isP_bd1 C.pr
    rw [Bool.not_true, cond_false, if_pos rfl]
    refine Eq.trans (exps03_g7 z C (p - 1) 1 k [] (by omega) (by omega) (by simp) (by omega)) ?_
    simp only [Int.toNat_natCast, List.nil_append]
    rw [List.take_of_length_le (by rw [List.length_drop, exL_len]; omega)]
theorem indexOf03_eq {p : Int} (h : PrOk p) (x : Int) (k : Nat) (hk : 1100 ≤ k) (Φ : Int → Int → A) : impl_IndexOf z k p x Φ = Φ (idx2 p x).1 (idx2 p x).2 := by
  obtain ⟨k, rfl⟩ := le_ex (show 2 ≤ k by omega)
  simp only [impl_IndexOf, step_succ]
  rw [isPrimeI_eq z h _ (by omega)]
  unfold idx2
  cases e : prB p with
  | false => simp
  | true =>
    have hb := prB_bd e
    rw [Bool.not_true, cond_false, within_eq, w64_id (by omega) (by omega)]
    by_cases c : 1 ≤ x ∧ x ≤ p - 1
    · rw [decide_eq_true c, Bool.not_true, cond_false, if_pos ⟨rfl, c⟩]
      obtain ⟨p, rfl, hp⟩ := prB_nat e
      have I := idx_facts hp
      obtain ⟨x, rfl⟩ := Int.eq_ofNat_of_zero_le (show 0 ≤ x by omega)
      have e : (idxL p).getD x 0 = ix p x := by
        have := I.rd x (by omega) (by omega)
        unfold rd at this
        rwa [Int.toNat_natCast] at this
      rw [indices_eq z hp _ (by omega), inI_at z (by rw [I.len]; omega), e]
      rfl
    · rw [decide_eq_false c, Bool.not_false, cond_true, if_neg (fun e => c e.2)]
theorem specIndexOf03_eq (p x : Int) (k : Nat) (hk : 1100 ≤ k) (Φ : Int → Int → A) : spec_IndexOf z k p x Φ = Φ (idx2 p x).1 (idx2 p x).2 := by
  obtain ⟨k, rfl⟩ := le_ex (show 2 ≤ k by omega)
  simp only [spec_IndexOf, step_succ]
  rw [prime03I_eq z p _ (by omega)]
  unfold idx2
  cases e : prB p with
  | false => simp
  | true =>
    have hb := prB_bd e
    rw [Bool.not_true, cond_false, in_eq, w64_id (by omega) (by omega)]
    by_cases c : 1 ≤ x ∧ x ≤ p - 1
    · rw [decide_eq_true c, Bool.not_true, cond_false, if_pos ⟨rfl, c⟩]
      obtain ⟨p, rfl, hp⟩ := prB_nat e
      obtain ⟨x, rfl⟩ := Int.eq_ofNat_of_zero_le (show 0 ≤ x by omega)
      have e : (x : Int) % (p : Int) = x := Int.emod_eq_of_lt (by omega) (by omega)
      rw [index03_eq z hp (by omega) _ (by omega), e]
      rfl
    · rw [decide_eq_false c, Bool.not_false, cond_true, if_neg (fun e => c e.2)]
theorem primitiveRoot_eq {p : Int} (h : PrOk p) (k : Nat) (hk : 1100 ≤ k) (Φ : Int → Int → A) : impl_PrimitiveRoot z k p Φ = Φ (root2 p).1 (root2 p).2 := by
  obtain ⟨k, rfl⟩ := le_ex (show 2 ≤ k by omega)
  simp only [impl_PrimitiveRoot, step_succ]
  rw [isPrimeI_eq z h _ (by omega)]
  unfold root2
  cases e : prB p with
  | false => rfl
  | true =>
    obtain ⟨p, rfl, hp⟩ := prB_nat e
    rw [Bool.not_true, cond_false, if_pos rfl, indices_eq z hp _ (by omega)]
    rfl
theorem specPrimitiveRoot_eq (p : Int) (k : Nat) (hk : 1100 ≤ k) (Φ : Int → Int → A) : spec_PrimitiveRoot z k p Φ = Φ (root2 p).1 (root2 p).2 := by
  obtain ⟨k, rfl⟩ := le_ex (show 2 ≤ k by omega)
  simp only [spec_PrimitiveRoot, step_succ]
  rw [prime03I_eq z p _ (by omega)]
  unfold root2
  cases e : prB p with
  | false => rfl
  | true =>
    obtain ⟨p, rfl, hp⟩ := prB_nat e
    rw [Bool.not_true, cond_false, if_pos rfl, root_eq z hp _ (by omega)]
    rfl
theorem chars_g4 {p : Int} {n : Nat} (hn : n ≤ 16) {K0 : List (Int × Int × Int) → A} : ∀ (d i k : Nat) (acc : List (Int × Int × Int)), i + d = n → acc.length = i → d + 1 ≤ k →
    impl_charactersOf.g4 z k p (n : Int) (n : Int) (i : Int) acc K0 = K0 (acc ++ chF p n d i)
  | d, i, 0, acc, _, _, hk => absurd hk (by omega)
  | 0, i, k + 1, acc, hi, hl, hk => by rw [impl_charactersOf.g4, if_neg (by omega), chF, List.append_nil]
  | d + 1, i, k + 1, acc, hi, hl, hk => by
    rw [impl_charactersOf.g4, if_pos (by omega), apI_ok z (by omega), w64_up (by omega), chars_g4 hn d (i + 1) k _ (by omega) (by simp; omega) (by omega), List.append_assoc]
    rfl
theorem charactersOf_eq {p : Int} (h : PrOk p) (n : Int) (k : Nat) (hk : 1100 ≤ k) (Φ : List (Int × Int × Int) → Int → A) : impl_CharactersOf z k p n Φ = Φ (chars2 p n).1 (chars2 p n).2 := by
  obtain ⟨k, rfl⟩ := le_ex (show 2 ≤ k by omega)
  simp only [impl_CharactersOf, step_succ]
  rw [areOf_eq z h n _ (by omega)]
  unfold chars2
  cases e : (prB p && (decide (1 ≤ n ∧ n ≤ 16) && decide ((p - 1).tmod n = 0))) with
  | false => rfl
  | true =>
    simp only [Bool.and_eq_true, decide_eq_true_eq] at e
    obtain ⟨m, rfl⟩ := Int.eq_ofNat_of_zero_le (show 0 ≤ n by omega)
    simp only [impl_charactersOf, step_succ]
    rw [Bool.not_true, cond_false, if_pos trivial]
    refine Eq.trans (chars_g4 z (p := p) (n := m) (by omega) m 0 k [] (by omega) rfl (by omega)) ?_
    simp only [Int.toNat_natCast, List.nil_append]
theorem chars03_g7 {p : Int} {n : Nat} (hn : n ≤ 16) {K0 : List (Int × Int × Int) → A} : ∀ (d i k : Nat) (acc : List (Int × Int × Int)), i + d = n → acc.length = i → d + 1 ≤ k →
    spec_CharactersOf.g7 z k p (n : Int) (i : Int) acc K0 = K0 (acc ++ chF p n d i)
  | d, i, 0, acc, _, _, hk => absurd hk (by omega)
  | 0, i, k + 1, acc, hi, hl, hk => by rw [spec_CharactersOf.g7, if_neg (by omega), chF, List.append_nil]
  | d + 1, i, k + 1, acc, hi, hl, hk => by
    rw [spec_CharactersOf.g7, if_pos (by omega), apI_ok z (by omega), w64_up (by omega), chars03_g7 hn d (i + 1) k _ (by omega) (by simp; omega) (by omega), List.append_assoc]
    rfl
theorem specCharactersOf_eq (p n : Int) (k : Nat) (hk : 1100 ≤ k) (Φ : List (Int × Int × Int) → Int → A) : spec_CharactersOf z k p n Φ = Φ (chars2 p n).1 (chars2 p n).2 := by
  obtain ⟨k, rfl⟩ := le_ex (show 2 ≤ k by omega)
  simp only [spec_CharactersOf, step_succ]
  rw [prime03I_eq z p _ (by omega)]
  unfold chars2
  cases e0 : prB p with
  | false => rfl
  | true =>
    have hb := prB_bd e0
    rw [Bool.not_true, cond_false, order03_eq z hb n _ (by omega)]
    cases e : (decide (1 ≤ n ∧ n ≤ 16) && decide ((p - 1).tmod n = 0)) with
    | false => rfl
    | true =>
      simp only [Bool.and_eq_true, decide_eq_true_eq] at e
      obtain ⟨m, rfl⟩ := Int.eq_ofNat_of_zero_le (show 0 ≤ n by omega)
      rw [Bool.not_true, cond_false, if_pos (by rfl)]
      refine Eq.trans (chars03_g7 z (p := p) (n := m) (by omega) m 0 _ [] (by omega) rfl (by omega)) ?_
      simp only [Int.toNat_natCast, List.nil_append]
theorem specCharacterAt_eq (p n k' x : Int) (k : Nat) (hk : 1200 ≤ k) (Φ : Int → List Int → Int → A) : spec_CharacterAt z k p n k' x Φ = Φ (at3 p n k' x).1 (at3 p n k' x).2.1 (at3 p n k' x).2.2 := by
  obtain ⟨k, rfl⟩ := le_ex (show 2 ≤ k by omega)
  simp only [spec_CharacterAt, step_succ]
  rw [is03_eq z p n k' _ (by omega)]
  unfold at3
  cases e : isCh p n k' with
  | false => rfl
  | true =>
    rw [Bool.not_true, cond_false, if_pos rfl, in_eq]
    by_cases c : -1000000 ≤ x ∧ x ≤ 1000000
    · rw [decide_eq_true c, Bool.not_true, cond_false, if_pos c]
      obtain ⟨p, n, k', rfl, rfl, rfl, C⟩ := isCh_nat e
      rw [at03_eq z C _ _ (by omega)]
      rfl
    · rw [decide_eq_false c, Bool.not_false, cond_true, if_neg c]
theorem near2_eq {c : List Int} {i : Int} (hs : Src c i) (h : Int) {n : Int} (hn : 0 ≤ n ∧ n ≤ 1000000) : ∃ i' h' v, (Src c i' ∧ (v = -1 ∨ v = 1099511627776 ∨ v = -4611686018427387904 ∨ (0 ≤ v ∧ v ≤ n + 1))) ∧ ∀ k, 4 ≤ k → ∀ Φ : List Int → Int → Int → Int → A, spec_l01Near z k c i h n Φ = Φ c i' h' v := by
  obtain ⟨i1, h1, v, ⟨s1, v0, v1, _⟩, e1⟩ := next_eq z hs h 14
  by_cases c0 : v = 0
  · obtain ⟨i2, h2, u, ⟨s2, hu⟩, e2⟩ := pick_eq z s1 h1 [(-1), (w64 (n + 1)), 1099511627776, (-4611686018427387904)] (by simp)
    rw [w64_id (by omega) (by omega)] at hu
    refine ⟨i2, h2, u, ⟨s2, ?_⟩, fun k hk Φ => ?_⟩
    · simp only [List.mem_cons, List.not_mem_nil, or_false] at hu
      omega
    · obtain ⟨k, rfl⟩ := le_ex (show 1 ≤ k by omega)
      simp only [spec_l01Near, step_succ]
      rw [e1 _ (by omega), if_pos c0, e2 _ (by omega)]
  · obtain ⟨i2, h2, u, ⟨s2, u0, u1, _⟩, e2⟩ := next_eq z s1 h1 (w64 (n + 1))
    rw [w64_id (by omega) (by omega)] at u1
    refine ⟨i2, h2, u, ⟨s2, by have := u1 (by omega); omega⟩, fun k hk Φ => ?_⟩
    obtain ⟨k, rfl⟩ := le_ex (show 1 ≤ k by omega)
    simp only [spec_l01Near, step_succ]
    rw [e1 _ (by omega), if_neg c0, e2 _ (by omega)]
theorem drawIndex_eq {c : List Int} (hc : c.length ≤ 4096) (hb : ∀ x ∈ c, 0 ≤ x ∧ x ≤ 255) : ∃ p x, PrOk p ∧ ∀ k, 5000 ≤ k → ∀ Φ : Int → Int → A, spec_DrawIndexOf z k c Φ = Φ p x := by
  obtain ⟨h, i, s, e⟩ := from_eq z hc hb
  obtain ⟨i1, h1, p1, ⟨s1, hp1⟩, e1⟩ := drawPrime03_eq z s h
  obtain ⟨i2, h2, p2, ⟨s2, hp2⟩, e2⟩ := drawPrime03_eq z s1 h1
  obtain ⟨i3, h3, p3, ⟨s3, hp3⟩, e3⟩ := drawPrime03_eq z s2 h2
  obtain ⟨i4, h4, p, ⟨s4, hp⟩, e4⟩ := pick_eq z s3 h3 [p1, p2, p3, 9] (by simp)
  obtain ⟨i5, h5, a, s5, e5⟩ := near_eq z s4 h4 (w64 (p - 2))
  refine ⟨p, w64 (1 + a), ?_, fun k hk Φ => ?_⟩
  · simp only [List.mem_cons, List.not_mem_nil, or_false] at hp
    have := prB_bd hp1
    have := prB_bd hp2
    have := prB_bd hp3
    unfold PrOk
    omega
  · obtain ⟨k, rfl⟩ := le_ex (show 1 ≤ k by omega)
    simp only [spec_DrawIndexOf, step_succ]
    rw [e _ (by omega), e1 _ (by omega), e2 _ (by omega), e3 _ (by omega), e4 _ (by omega), e5 _ (by omega)]
theorem drawRoot_eq {c : List Int} (hc : c.length ≤ 4096) (hb : ∀ x ∈ c, 0 ≤ x ∧ x ≤ 255) : ∃ p, PrOk p ∧ ∀ k, 5000 ≤ k → ∀ Φ : Int → A, spec_DrawPrimitiveRoot z k c Φ = Φ p := by
  obtain ⟨h, i, s, e⟩ := from_eq z hc hb
  obtain ⟨i1, h1, p1, ⟨s1, hp1⟩, e1⟩ := drawPrime03_eq z s h
  obtain ⟨i2, h2, p2, ⟨s2, hp2⟩, e2⟩ := drawPrime03_eq z s1 h1
  obtain ⟨i3, h3, p3, ⟨s3, hp3⟩, e3⟩ := near2_eq z s2 h2 (n := 61) (by omega)
  obtain ⟨i4, h4, p, ⟨s4, hp⟩, e4⟩ := pick_eq z s3 h3 [p1, p2, p3] (by simp)
  refine ⟨p, ?_, fun k hk Φ => ?_⟩
  · simp only [List.mem_cons, List.not_mem_nil, or_false] at hp
    have := prB_bd hp1
    have := prB_bd hp2
    unfold PrOk
    omega
  · obtain ⟨k, rfl⟩ := le_ex (show 1 ≤ k by omega)
    simp only [spec_DrawPrimitiveRoot, step_succ]
    rw [e _ (by omega), e1 _ (by omega), e2 _ (by omega), e3 _ (by omega), e4 _ (by omega)]
theorem drawChars_eq {c : List Int} (hc : c.length ≤ 4096) (hb : ∀ x ∈ c, 0 ≤ x ∧ x ≤ 255) : ∃ p n, PrOk p ∧ ∀ k, 5000 ≤ k → ∀ Φ : Int → Int → A, spec_DrawCharactersOf z k c Φ = Φ p n := by
  obtain ⟨h, i, s, e⟩ := from_eq z hc hb
  obtain ⟨i1, h1, p1, ⟨s1, hp1⟩, e1⟩ := drawPrime03_eq z s h
  obtain ⟨i2, h2, u, ⟨s2, _⟩, e2⟩ := next_eq z s1 h1 8
  have pb := prB_bd hp1
  by_cases c0 : u = 0
  · obtain ⟨i3, h3, p, ⟨s3, hp⟩, e3⟩ := pick_eq z s2 h2 [p1, 9, 67] (by simp)
    obtain ⟨i4, h4, n, s4, e4⟩ := near_eq z s3 h3 17
    refine ⟨p, n, ?_, fun k hk Φ => ?_⟩
    · simp only [List.mem_cons, List.not_mem_nil, or_false] at hp
      unfold PrOk
      omega
    · obtain ⟨k, rfl⟩ := le_ex (show 1 ≤ k by omega)
      simp only [spec_DrawCharactersOf, step_succ]
      rw [e _ (by omega), e1 _ (by omega), e2 _ (by omega), if_pos c0, e3 _ (by omega), e4 _ (by omega)]
  · obtain ⟨q, rfl, hq⟩ := prB_nat hp1
    obtain ⟨i3, h3, n, ⟨s3, _⟩, e3⟩ := drawOrder03_eq z s2 h2 hq
    refine ⟨q, n, .inl (by omega), fun k hk Φ => ?_⟩
    obtain ⟨k, rfl⟩ := le_ex (show 1 ≤ k by omega)
    simp only [spec_DrawCharactersOf, step_succ]
    rw [e _ (by omega), e1 _ (by omega), e2 _ (by omega), if_neg c0, e3 _ (by omega)]
theorem drawAt_eq {c : List Int} (hc : c.length ≤ 4096) (hb : ∀ x ∈ c, 0 ≤ x ∧ x ≤ 255) : ∃ p n x y, PrOk p ∧ ∀ k, 5000 ≤ k → ∀ Φ : Int → Int → Int → Int → A, spec_DrawCharacterAt z k c Φ = Φ p n x y := by
  obtain ⟨h, i, s, e⟩ := from_eq z hc hb
  obtain ⟨i1, h1, p, n, x, ⟨s1, hp⟩, e1⟩ := spoil03_eq z s h
  obtain ⟨i2, h2, a, ⟨s2, _⟩, e2⟩ := next_eq z s1 h1 61
  obtain ⟨i3, h3, b, ⟨s3, _⟩, e3⟩ := drawPart_eq z s2 h2 (p := 100) (by omega)
  obtain ⟨i4, h4, d, ⟨s4, _⟩, e4⟩ := drawPart_eq z s3 h3 (p := 1000000) (by omega)
  obtain ⟨i5, h5, y, ⟨s5, _⟩, e5⟩ := pick_eq z s4 h4 [a, b, d, p, 0, 1000001] (by simp)
  refine ⟨p, n, x, y, hp, fun k hk Φ => ?_⟩
  obtain ⟨k, rfl⟩ := le_ex (show 1 ≤ k by omega)
  simp only [spec_DrawCharacterAt, step_succ]
  rw [e _ (by omega), e1 _ (by omega), e2 _ (by omega), e3 _ (by omega), e4 _ (by omega), e5 _ (by omega)]
end
end Go.Proofs.YtbgbokflmekhmaaGreat.F
/- The law of characters answers true. -/
namespace Go.Proofs.YtbgbokflmekhmaaGreat.F
open Go.RowKit Go.Proofs.YtbgbokflmekhmaaGreat.R
set_option linter.unusedVariables false
set_option linter.unusedSimpArgs false
theorem addN_lt {n a b : Nat} (h1 : 1 ≤ n) : (a + b) % n < n := Nat.mod_lt _ (by omega)
theorem ex_add (p n a b x : Nat) : (exN p n a x + exN p n b x) % n = exN p n ((a + b) % n) x := by
  unfold exN
  rw [← Nat.add_mod, Nat.mul_mod (ix p x) ((a + b) % n), Nat.mod_mod, ← Nat.mul_mod, Nat.mul_add]
theorem ex_neg (p n a x : Nat) : (exN p n a x * (n - 1)) % n = exN p n (subN n 0 a) x := by
  rw [← ex_sub p n 0 a x]
  congr 1
  unfold exN
  rw [Nat.mul_zero, Nat.zero_mod, Nat.zero_add]
theorem nil_mulO (n : Nat) : mulO n (nilT n) (nilT n) = some (nilT n) := by
  have e : tab (cycD n) (bil n (nilT n) (nilT n)) = nilT n := tab_congr fun m _ => nilT_bil _ m
  unfold mulO okB
  rw [e, if_pos (good_small (nilT_good n))]
theorem at_mul {p n a b : Nat} (h1 : 1 ≤ n) (h2 : n ≤ 16) (x : Int) : mulO n (atT p n a x) (atT p n b x) = some (atT p n ((a + b) % n) x) := by
  unfold atT
  by_cases c : x % (p : Int) = 0
  · rw [if_pos c, if_pos c, if_pos c, nil_mulO]
  · rw [if_neg c, if_neg c, if_neg c, zT_mulO h1 h2, ← zT_mod, ex_add]
theorem at_bar {p n a : Nat} (h1 : 1 ≤ n) (h2 : n ≤ 16) (x : Int) : imT n (atT p n a x) (-1) = atT p n (subN n 0 a) x := by
  unfold atT
  by_cases c : x % (p : Int) = 0
  · rw [if_pos c, if_pos c, nilT_bar h1 h2]
  · rw [if_neg c, if_neg c, zT_bar h1 h2, ← zT_mod, ex_neg]
theorem isC_at {p n k : Nat} (h1 : 1 ≤ n) (h2 : n ≤ 16) (x : Int) : isC (n : Int) (atT p n k x) = true := isC_of h1 h2 (atT_len p n k x) (good_small (atT_good h1 h2 x))
theorem at_mul3 {p n a b : Nat} (h1 : 1 ≤ n) (h2 : n ≤ 16) (x : Int) : mul3 (n : Int) (atT p n a x) (n : Int) (atT p n b x) = ((n : Int), atT p n ((a + b) % n) x, 0) := by
  have e : codeC (n : Int) (atT p n a x) (n : Int) (atT p n b x) = 0 := by
    unfold codeC
    rw [isC_at h1 h2, isC_at h1 h2]
    simp
  unfold mul3
  rw [if_neg (by rw [e]; simp), Int.toNat_natCast, at_mul h1 h2]
theorem at_bar3 {p n a : Nat} (h1 : 1 ≤ n) (h2 : n ≤ 16) (x : Int) : bar3 (n : Int) (atT p n a x) = ((n : Int), atT p n (subN n 0 a) x, 0) := by
  unfold bar3
  rw [if_pos (isC_at h1 h2 x), Int.toNat_natCast, at_bar h1 h2]
  unfold told3
  rw [if_pos (good_small (atT_good h1 h2 x))]
theorem at3_in {p n k : Nat} (C : Ch p n k) {x : Int} (hx : -1000000 ≤ x ∧ x ≤ 1000000) : at3 p n k x = ((n : Int), atT p n k x, 0) := by
  unfold at3
  rw [if_pos (isCh_of C), if_pos hx]
  simp only [Int.toNat_natCast]
theorem Ch.of {p n k j : Nat} (C : Ch p n k) (h : j < n) : Ch p n j := ⟨C.pr, C.n1, C.n2, C.dvd, h⟩
theorem at3_len (p n x y : Int) : (at3 p n x y).2.1.length ≤ 12 := by
  unfold at3
  split
  · rename_i c
    obtain ⟨p, n, x, rfl, rfl, rfl, C⟩ := isCh_nat c
    split
    · show (atT _ (Int.toNat (n : Int)) _ _).length ≤ 12
      rw [atT_len, Int.toNat_natCast]
      exact le12 C.n1 C.n2
    · simp
  · simp
theorem ker2_len (p n x : Int) : (ker2 p n x).1.length ≤ 61 := by
  unfold ker2
  split
  · rename_i c
    obtain ⟨p, n, x, rfl, rfl, rfl, C⟩ := isCh_nat c
    have hb := isP_bd1 C.pr
    have := kerF_len p n x p 0
    simp only [Int.toNat_natCast]
    omega
  · simp
theorem exps2_len (p n x : Int) : (exps2 p n x).1.length ≤ 61 := by
  unfold exps2
  split
  · rename_i c
    obtain ⟨p, n, x, rfl, rfl, rfl, C⟩ := isCh_nat c
    have hb := isP_bd1 C.pr
    simp only [Int.toNat_natCast]
    rw [List.length_take]
    omega
  · simp
theorem chF_len (p n : Int) : ∀ d i, (chF p n d i).length = d
  | 0, i => rfl
  | d + 1, i => by rw [chF, List.length_cons, chF_len p n d]
theorem chars2_len (p n : Int) : (chars2 p n).1.length ≤ 16 := by
  unfold chars2
  split
  · rename_i c
    simp only [Bool.and_eq_true, decide_eq_true_eq] at c
    simp only [chF_len]
    omega
  · simp
section
variable {A : Type} (z : A)
theorem law_g21 {p n a b : Nat} (C : Ch p n a) (C' : Ch p n b) {K0 : Bool → A} {K1 : A} : ∀ (d x k : Nat), x + d = 5 → d + 2000 ≤ k →
    laws_FnCharacters.g21 z k (x : Int) (p : Int) (n : Int) (a : Int) (p : Int) (n : Int) (b : Int) (p : Int) (n : Int) (((a + b) % n : Nat) : Int) (p : Int) (n : Int) (subN n 0 a : Int) K0 K1 = K1
  | d, x, 0, _, hk => absurd hk (by omega)
  | 0, x, k + 1, hx, hk => by rw [laws_FnCharacters.g21, if_neg (by omega)]
  | d + 1, x, k + 1, hx, hk => by
    have hb := isP_bd1 C.pr
    have h1 := C.n1
    have h2 := C.n2
    have ok : PrOk (p : Int) := .inl (by omega)
    have h12 := le12 h1 h2
    have C3 := C.of (addN_lt (a := a) (b := b) h1)
    have C4 := C.of (show subN n 0 a < n from Nat.mod_lt _ (by omega))
    rw [laws_FnCharacters.g21, if_pos (by omega), characterAt_eq z ok _ _ _ _ (by omega), characterAt_eq z ok _ _ _ _ (by omega), characterAt_eq z ok _ _ _ _ (by omega), at3_in C (by omega), at3_in C' (by omega), at3_in C3 (by omega),
      multiply_eq z _ _ (by simp only [atT_len]; omega) (by simp only [atT_len]; omega) _ (by simp only [atT_len]; omega), characterAt_eq z ok _ _ _ _ (by omega), at3_in C4 (by omega), conjugate_eq z _ (by simp only [atT_len]; omega) _ (by simp only [atT_len]; omega), at_mul3 h1 h2, at_bar3 h1 h2,
      if_neg (by simp), if_neg (by simp), if_neg (by simp), if_neg (by simp), if_neg (by simp), if_neg (by simp), cyclos5_eq z (by simp only [atT_len]; omega) _ _ _ (by simp only [atT_len]; omega), decide_eq_true ⟨rfl, rfl⟩, Bool.not_true, cond_false,
      cyclos5_eq z (by simp only [atT_len]; omega) _ _ _ (by simp only [atT_len]; omega), decide_eq_true ⟨rfl, rfl⟩, Bool.not_true, cond_false, w64_up (by omega), law_g21 C C' d (x + 1) k (by omega) (by omega)]
theorem law_g65 {l : List (Int × Int × Int)} (hl : l.length ≤ 1000) {K0 : Bool → A} {K1 : A} : ∀ (d i k : Nat), i + d = l.length → d + 1 ≤ k → laws_FnCharacters.g65 z k (i : Int) l l K0 K1 = K1
  | d, i, 0, _, hk => absurd hk (by omega)
  | 0, i, k + 1, hi, hk => by rw [laws_FnCharacters.g65, if_neg (by omega)]
  | d + 1, i, k + 1, hi, hk => by
    rw [laws_FnCharacters.g65, if_pos (by omega), inI_at z (by omega), inI_at z (by omega), if_neg (by simp), w64_up (by omega), law_g65 hl d (i + 1) k (by omega) (by omega)]
theorem law_g45 {p x : Nat} (hp : isP p = true) (h1 : 1 ≤ x) (h2 : x < p) {K0 : Int → A} : ∀ (d i k : Nat), i + d = ix p x → d + 1 ≤ k →
    laws_FnCharacters.g45 z k (p : Int) (ix p x : Int) (rootT p : Int) 0 ((rootT p ^ i % p : Nat) : Int) (i : Int) K0 = K0 (x : Int)
  | d, i, 0, _, hk => absurd hk (by omega)
  | 0, i, k + 1, hi, hk => by
    rw [laws_FnCharacters.g45, if_neg (by omega), show i = ix p x by omega, (idx_facts hp).pow x h1 h2]
  | d + 1, i, k + 1, hi, hk => by
    have hb := isP_bd1 hp
    have h3 := ix_bd hp h1 h2
    have h5 : rootT p ^ i % p < p := Nat.mod_lt _ (by omega)
    have h6 : rootT p ≤ 61 := by
      have : ((List.range 62).all fun p => decide (rootT p ≤ 61)) = true := by decide +kernel
      exact of_decide_eq_true (List.all_eq_true.1 this p (List.mem_range.2 (by omega)))
    have h7 : (rootT p ^ i % p) * rootT p ≤ 61 * 61 := Nat.mul_le_mul (by omega) h6
    rw [laws_FnCharacters.g45, if_pos (by omega), if_pos rfl, gd_ok z (by omega), ← Int.natCast_mul, w64_id (by omega) (by omega), tmodN, w64_up (by omega), show rootT p ^ i % p * rootT p % p = rootT p ^ (i + 1) % p by rw [Nat.mod_mul_mod, Nat.pow_succ],
      law_g45 hp h1 h2 d (i + 1) k (by omega) (by omega)]
theorem law_g39 {c : List Int} (hc : c.length ≤ 4096) (hb : ∀ x ∈ c, 0 ≤ x ∧ x ≤ 255) (k : Nat) (hk : 6000 ≤ k) {K0 : Bool → A} : laws_FnCharacters.g39 z k c K0 = K0 true := by
  obtain ⟨k, rfl⟩ := le_ex (show 1 ≤ k by omega)
  obtain ⟨p, n, x, y, hp, e1⟩ := drawAt_eq z hc hb
  obtain ⟨p2, hp2, e2⟩ := drawRoot_eq z hc hb
  obtain ⟨p3, n3, hp3, e3⟩ := drawChars_eq z hc hb
  obtain ⟨p4, n4, x4, hp4, e4⟩ := drawExp_eq z hc hb
  obtain ⟨p5, n5, x5, hp5, e5⟩ := drawKernel_eq z hc hb
  obtain ⟨p6, n6, x6, hp6, e6⟩ := drawExact_eq z hc hb
  have l1 := at3_len p n x y
  have l2 := chars2_len p3 n3
  have l3 := exps2_len p4 n4 x4
  have l4 := ker2_len p5 n5 x5
  rw [laws_FnCharacters.g39, e1 _ (by omega), characterAt_eq z hp _ _ _ _ (by omega), specCharacterAt_eq z _ _ _ _ _ (by omega), e2 _ (by omega), primitiveRoot_eq z hp2 _ (by omega), specPrimitiveRoot_eq z _ _ (by omega), e3 _ (by omega), charactersOf_eq z hp3 _ _ (by omega), specCharactersOf_eq z _ _ _ (by omega),
    if_neg (by simp), cyclos5_eq z (by omega) _ _ _ (by omega), decide_eq_true ⟨rfl, rfl⟩, Bool.not_true, cond_false, if_neg (by simp), if_neg (by simp), if_neg (by simp), if_neg (by simp)]
  refine Eq.trans (law_g65 z (by omega) (chars2 p3 n3).1.length 0 k (by omega) (by omega)) ?_
  rw [e4 _ (by omega), exponentsOf_eq z hp4 _ _ _ (by omega), specExponentsOf_eq z _ _ _ _ (by omega), e5 _ (by omega), kernelOf_eq z hp5 _ _ _ (by omega), specKernelOf_eq z _ _ _ _ (by omega), e6 _ (by omega), exactOrder_eq z hp6 _ _ _ (by omega), specExactOrder_eq z _ _ _ _ (by omega),
    if_pos rfl, like_eq z (by omega) _ (by omega), decide_eq_true rfl, cond_true, if_pos rfl, like_eq z (by omega) _ (by omega), decide_eq_true rfl, cond_true, if_pos rfl, decide_eq_true rfl]
theorem law_g10 {c : List Int} (hc : c.length ≤ 4096) (hb : ∀ x ∈ c, 0 ≤ x ∧ x ≤ 255) (k : Nat) (hk : 6001 ≤ k) {K0 : Bool → A} : laws_FnCharacters.g10 z k c K0 = K0 true := by
  obtain ⟨k, rfl⟩ := le_ex (show 1 ≤ k by omega)
  obtain ⟨p, x, hp, e1⟩ := drawIndex_eq z hc hb
  rw [laws_FnCharacters.g10, e1 _ (by omega), indexOf03_eq z hp _ _ (by omega), specIndexOf03_eq z _ _ _ (by omega), if_neg (by simp), if_neg (by simp)]
  by_cases c0 : (idx2 p x).2 = 0
  · rw [if_pos c0, primitiveRoot_eq z hp _ (by omega)]
    unfold idx2 at c0 ⊢
    by_cases c1 : prB p = true ∧ 1 ≤ x ∧ x ≤ p - 1
    · rw [if_pos c1]
      obtain ⟨q, rfl, hq⟩ := prB_nat c1.1
      obtain ⟨x, rfl⟩ := Int.eq_ofNat_of_zero_le (show 0 ≤ x by omega)
      have hbq := isP_bd1 hq
      have h3 := ix_bd hq (x := x) (by omega) (by omega)
      unfold root2
      rw [if_pos c1.1]
      simp only [Int.toNat_natCast]
      have e := fun K0 => law_g45 z hq (x := x) (K0 := K0) (by omega) (by omega) (ix q x) 0 k (by omega) (by omega)
      rw [Nat.pow_zero, Nat.mod_eq_of_lt (by omega)] at e
      refine Eq.trans (e _) ?_
      rw [if_neg (by omega), if_neg (by omega), law_g39 z hc hb _ (by omega)]
    · rw [if_neg c1] at c0
      simp at c0
  · rw [if_neg c0, law_g39 z hc hb _ (by omega)]
theorem law_eq {c : List Int} (hb : ∀ x ∈ c, 0 ≤ x ∧ x ≤ 255) (k : Nat) (hk : 9000 ≤ k) (Φ : Bool → A) : laws_FnCharacters z k c Φ = Φ true := by
  obtain ⟨k, rfl⟩ := le_ex (show 3 ≤ k by omega)
  simp only [laws_FnCharacters, step_succ, laws_big]
  by_cases hc : c.length ≤ 4096
  · obtain ⟨p, n, x, p', n', x', ⟨hp, hp'⟩, e1⟩ := drawMulCh_eq z hc hb
    rw [decide_eq_false (by omega), cond_false, e1 _ (by omega), mulCh_eq z hp hp' _ _ _ _ _ (by omega), specMulCh_eq z _ _ _ _ _ _ _ (by omega), if_neg (by simp), if_neg (by simp), isCharacter_eq z hp _ _ _ (by omega)]
    simp only [spec_IsCharacter, step_succ]
    rw [is03_eq z _ _ _ _ (by omega), if_neg (by simp)]
    by_cases c0 : (mul4 p n x p' n' x').2.2.2 = 0
    · rw [if_pos c0]
      have c1 : pairC p n x p' n' x' = 0 := by
        unfold mul4 at c0
        by_cases c1 : pairC p n x p' n' x' = 0
        · exact c1
        · rw [if_neg c1] at c0
          exact c0
      obtain ⟨c1', c2', rfl, rfl⟩ := pairC_zero c1
      obtain ⟨p, n, x, rfl, rfl, rfl, C⟩ := isCh_nat c1'
      obtain ⟨p1, n1, x', e1', e2', rfl, C'⟩ := isCh_nat c2'
      have e1' : p = p1 := Int.ofNat.inj e1'
      have e2' : n = n1 := Int.ofNat.inj e2'
      subst e1' e2'
      have hbp := isP_bd1 C.pr
      have h1 := C.n1
      have h2 := C.n2
      have k1 : mul4 (p : Int) (n : Int) (x : Int) (p : Int) (n : Int) (x' : Int) = ((p : Int), (n : Int), (((x + x') % n : Nat) : Int), 0) := by
        unfold mul4
        rw [if_pos c1]
        rfl
      have k2 : inv4 (p : Int) (n : Int) (x : Int) = ((p : Int), (n : Int), (subN n 0 x : Int), 0) := by
        unfold inv4
        rw [if_pos c1', ← subN_int h1, show (((0 : Nat) : Int) - (x : Int)) = -(x : Int) by omega]
      have k3 : ker2 (p : Int) (n : Int) (x : Int) = (kerF p n x p 0, 0) := by
        unfold ker2
        rw [if_pos c1']
        rfl
      have k4 : ord2 (p : Int) (n : Int) (x : Int) = (((n / Nat.gcd n x : Nat) : Int), 0) := by
        unfold ord2
        rw [if_pos c1']
        rfl
      have k5 : exps2 (p : Int) (n : Int) (x : Int) = (((exL p n x).drop 1).take (p - 1), 0) := by
        unfold exps2
        rw [if_pos c1']
        rfl
      have k6 : even2 (p : Int) (n : Int) (x : Int) = (decide (exN p n x (p - 1) = 0), 0) := by
        unfold even2
        rw [if_pos c1']
        rfl
      have kl := kerF_len p n x p 0
      have ko := ker_ok C
      have el : (((exL p n x).drop 1).take (p - 1)).length = p - 1 := by rw [List.length_take, List.length_drop, exL_len]; omega
      have eg : (((exL p n x).drop 1).take (p - 1)).getD (p - 1 - 1) 0 = (exN p n x (p - 1) : Int) := by
        have := exL_get (p := p) (n := n) (k := x) (x := p - 1) (by omega) (by omega)
        rw [← this, List.getD_eq_getElem?_getD, List.getD_eq_getElem?_getD, List.getElem?_take, if_pos (by omega), List.getElem?_drop, show 1 + (p - 1 - 1) = p - 1 by omega]
      rw [inverse_eq z hp _ _ _ (by omega), kernelOf_eq z hp _ _ _ (by omega), exactOrder_eq z hp _ _ _ (by omega), exponentsOf_eq z hp _ _ _ (by omega), isEven_eq z hp _ _ _ (by omega), k1, k2, k3, k4, k5, k6,
        if_neg (by simp), if_neg (by simp), if_neg (by simp), if_neg (by simp), if_neg (by simp)]
      dsimp only
      rw [← Int.natCast_mul, ko, if_neg (by rw [w64_id (by omega) (by omega), w64_id (by omega) (by omega)]; omega), el, if_neg (by rw [w64_id (by omega) (by omega)]; omega), w64_id (by omega) (by omega), show ((p - 1 : Nat) : Int) - 1 = ((p - 1 - 1 : Nat) : Int) by omega, inI_at z (by omega), eg,
        if_neg (by
          simp only [ne_eq, Decidable.not_not]
          congr 1
          apply propext
          omega)]
      have e := law_g21 z C C' (K0 := Φ) (K1 := laws_FnCharacters.g10 z (k + 2) c Φ) 4 1 (k + 2) (by omega) (by omega)
      refine Eq.trans e ?_
      rw [law_g10 z hc hb _ (by omega)]
    · rw [if_neg c0, law_g10 z hc hb _ (by omega)]
  · rw [decide_eq_true (by omega), cond_true]
end
end Go.Proofs.YtbgbokflmekhmaaGreat.F
