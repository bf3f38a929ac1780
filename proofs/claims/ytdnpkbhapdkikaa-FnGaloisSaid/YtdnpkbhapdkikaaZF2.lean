/- Facts on what the printed functions tell. -/
import Derived.Test.YtdnpkbhapdkikaaZF1
import Derived.Test.YtdnpkbhapdkikaaZV
/- Facts on the printed functions of the first layer: ranges, divisors, totients, lists. -/
namespace Go.Proofs.Ytdnpkbhapdkikaa.F
open Go.RowKit Go.Proofs.Ytdnpkbhapdkikaa.R
set_option linter.unusedVariables false
set_option linter.unusedSimpArgs false
theorem by16 {P : Nat → Prop} (h1 : P 1) (h2 : P 2) (h3 : P 3) (h4 : P 4) (h5 : P 5) (h6 : P 6) (h7 : P 7) (h8 : P 8) (h9 : P 9) (h10 : P 10) (h11 : P 11) (h12 : P 12) (h13 : P 13) (h14 : P 14) (h15 : P 15) (h16 : P 16) : ∀ n : Nat, 1 ≤ n → n ≤ 16 → P n
  | 1, _, _ => h1 | 2, _, _ => h2 | 3, _, _ => h3 | 4, _, _ => h4 | 5, _, _ => h5 | 6, _, _ => h6 | 7, _, _ => h7 | 8, _, _ => h8
  | 9, _, _ => h9 | 10, _, _ => h10 | 11, _, _ => h11 | 12, _, _ => h12 | 13, _, _ => h13 | 14, _, _ => h14 | 15, _, _ => h15 | 16, _, _ => h16
  | 0, h, _ => absurd h (by omega)
  | n + 17, _, h => absurd h (by omega)
theorem le_ex {K k : Nat} (h : K ≤ k) : ∃ j, k = j + K := ⟨k - K, by omega⟩
theorem tmod_lt {a n : Int} (hn : 1 ≤ n) : -n < Int.tmod a n ∧ Int.tmod a n < n := ⟨Int.lt_tmod_of_pos a (by omega), Int.tmod_lt_of_pos a (by omega)⟩
theorem tmod_emod (a n : Int) : Int.tmod a n % n = a % n := by
  rw [Int.tmod_def, Int.sub_mul_emod_self_left]
theorem tmod_zero {a n : Int} : Int.tmod a n = 0 ↔ a % n = 0 := by
  rw [← Int.dvd_iff_tmod_eq_zero, Int.dvd_iff_emod_eq_zero]
section
variable {A : Type} (z : A)
theorem within_eq (k : Nat) (a lo hi : Int) (Φ : Bool → A) : impl_within z (k + 1) a lo hi Φ = Φ (decide (lo ≤ a ∧ a ≤ hi)) := by
  simp only [impl_within, step_succ]
  by_cases h : lo ≤ a <;> simp [h]
theorem in_eq (k : Nat) (a lo hi : Int) (Φ : Bool → A) : spec_l01In z (k + 1) a lo hi Φ = Φ (decide (lo ≤ a ∧ a ≤ hi)) := by
  simp only [spec_l01In, step_succ]
  by_cases h : lo ≤ a <;> simp [h]
theorem isOrder_eq (k : Nat) (n : Int) (Φ : Bool → A) : impl_isOrder z (k + 2) n Φ = Φ (decide (1 ≤ n ∧ n ≤ 16)) := by
  simp only [impl_isOrder, step_succ, within_eq]
theorem around_eq (k : Nat) {a n : Int} (hn : 1 ≤ n) (hn2 : n ≤ 1000000) (Φ : Int → A) : impl_around z (k + 1) a n Φ = Φ (a % n) := by
  obtain ⟨a0, a1⟩ := tmod_lt (a := a) hn
  simp only [impl_around, step_succ]
  rw [gd_ok z (by omega), gd_ok z (by omega), w64_id (by omega) (by omega), Int.tmod_eq_emod_of_nonneg (by omega), Int.add_emod_right, tmod_emod]
/-! divisors -/
theorem igcd_g {K0 : Int → A} : ∀ (d k : Nat) (a b : Int), 0 ≤ a → 0 ≤ b → b.toNat ≤ d → d < k → impl_gcd.g3 z k a b K0 = K0 (Int.gcd a b)
  | d, 0, a, b, _, _, _, hk => absurd hk (by omega)
  | d, k + 1, a, b, ha, hb, hd, hk => by
    rw [impl_gcd.g3]
    by_cases h : 0 < b
    · have h1 := Int.tmod_lt_of_pos a h
      have h2 := Int.tmod_nonneg b ha
      rw [if_pos h, gd_ok z (by omega)]
      cases d with
      | zero => omega
      | succ d => rw [igcd_g d k b _ hb h2 (by omega) (by omega), gcd_tmod a b ha h]
    · have : b = 0 := by omega
      subst this
      rw [if_neg h, Int.gcd_zero_right, Int.natAbs_of_nonneg ha]
theorem size_eq (k : Nat) {a : Int} (h : -9223372036854775808 < a ∧ a ≤ 9223372036854775807) (Φ : Int → A) : impl_size z (k + 1) a Φ = Φ (a.natAbs : Int) := by
  simp only [impl_size, step_succ]
  rw [w64_id (by omega) (by omega)]
  congr 1
  unfold maxI
  split <;> omega
theorem igcd_eq {a b : Int} (ha : -9223372036854775808 < a ∧ a ≤ 9223372036854775807) (hb : -9223372036854775808 < b ∧ b ≤ 9223372036854775807) (k : Nat) (hk : b.natAbs + 2 ≤ k) (Φ : Int → A) : impl_gcd z k a b Φ = Φ (Int.gcd a b) := by
  obtain ⟨j, rfl, hj⟩ := up hk
  obtain ⟨i, rfl, hi⟩ := up hj
  simp only [impl_gcd, step_succ]
  rw [size_eq z i ha, size_eq z i hb, igcd_g z b.natAbs (i + 1) _ _ (by omega) (by omega) (by omega) (by omega)]
  simp [Int.gcd]
theorem sgcd_g {K0 : Int → A} : ∀ (d k : Nat) (a b : Int), 0 ≤ a → 0 ≤ b → b.toNat ≤ d → d < k → spec_l01Gcd.g2 z k a b K0 = K0 (Int.gcd a b)
  | d, 0, a, b, _, _, _, hk => absurd hk (by omega)
  | d, k + 1, a, b, ha, hb, hd, hk => by
    rw [spec_l01Gcd.g2]
    by_cases h : b ≠ 0
    · have hp : 0 < b := by omega
      have h1 := Int.tmod_lt_of_pos a hp
      have h2 := Int.tmod_nonneg b ha
      rw [if_pos h, gd_ok z h]
      cases d with
      | zero => omega
      | succ d => rw [sgcd_g d k b _ hb h2 (by omega) (by omega), gcd_tmod a b ha hp]
    · have : b = 0 := by omega
      subst this
      rw [if_neg h, Int.gcd_zero_right, Int.natAbs_of_nonneg ha]
theorem sgcd_eq {a b : Int} (ha : 0 ≤ a ∧ a ≤ 9223372036854775807) (hb : 0 ≤ b ∧ b ≤ 9223372036854775807) (k : Nat) (hk : b.natAbs + 2 ≤ k) (Φ : Int → A) : spec_l01Gcd z k a b Φ = Φ (Int.gcd a b) := by
  obtain ⟨j, rfl, hj⟩ := up hk
  simp only [spec_l01Gcd, step_succ]
  rw [sgcd_g z b.natAbs j _ _ ha.1 hb.1 (by omega) (by omega)]
  have hg : (Int.gcd a b : Int) ≤ 9223372036854775807 := by
    unfold Int.gcd
    rcases Nat.eq_zero_or_pos a.natAbs with h | h
    · rw [h, Nat.gcd_zero_left]; omega
    · have := Nat.gcd_le_left b.natAbs h; omega
  rw [w64_id (by omega) (by omega)]
  congr 1
  unfold maxI
  split <;> omega
theorem isPrimeTo_eq {n : Nat} (h1 : 1 ≤ n) (h2 : n ≤ 1000) (a : Int) (k : Nat) (hk : 1010 ≤ k) (Φ : Bool → A) : impl_isPrimeTo z k a n Φ = Φ (decide ((1 ≤ a ∧ a ≤ n) ∧ Int.gcd a n = 1)) := by
  obtain ⟨j, rfl, hj⟩ := up hk
  obtain ⟨i, rfl, hi⟩ := up hj
  simp only [impl_isPrimeTo, step_succ]
  rw [within_eq]
  by_cases h : 1 ≤ a ∧ a ≤ (n : Int)
  · rw [decide_eq_true h, cond_true, igcd_eq z (by omega) (by omega) _ (by omega)]
    congr 1
    simp only [h, true_and, and_self]
    congr 1
    apply propext
    omega
  · rw [decide_eq_false h, cond_false]
    simp [h]
end
/-! tables -/
theorem totient_tab : ∀ n : Nat, 1 ≤ n → n ≤ 16 → ∀ (j : Nat) (A : Type) (z : A) (Φ : Int → A), impl_totient z (j + 60) (n : Int) Φ = Φ (cycD n : Int) :=
  by16 (fun _ _ _ _ => by kernel_rfl) (fun _ _ _ _ => by kernel_rfl) (fun _ _ _ _ => by kernel_rfl) (fun _ _ _ _ => by kernel_rfl) (fun _ _ _ _ => by kernel_rfl) (fun _ _ _ _ => by kernel_rfl) (fun _ _ _ _ => by kernel_rfl) (fun _ _ _ _ => by kernel_rfl) (fun _ _ _ _ => by kernel_rfl) (fun _ _ _ _ => by kernel_rfl) (fun _ _ _ _ => by kernel_rfl) (fun _ _ _ _ => by kernel_rfl) (fun _ _ _ _ => by kernel_rfl) (fun _ _ _ _ => by kernel_rfl) (fun _ _ _ _ => by kernel_rfl) (fun _ _ _ _ => by kernel_rfl)
theorem phi_tab : ∀ n : Nat, 1 ≤ n → n ≤ 16 → ∀ (j : Nat) (A : Type) (z : A) (Φ : Int → A), spec_l01Phi z (j + 60) (n : Int) Φ = Φ (cycD n : Int) :=
  by16 (fun _ _ _ _ => by kernel_rfl) (fun _ _ _ _ => by kernel_rfl) (fun _ _ _ _ => by kernel_rfl) (fun _ _ _ _ => by kernel_rfl) (fun _ _ _ _ => by kernel_rfl) (fun _ _ _ _ => by kernel_rfl) (fun _ _ _ _ => by kernel_rfl) (fun _ _ _ _ => by kernel_rfl) (fun _ _ _ _ => by kernel_rfl) (fun _ _ _ _ => by kernel_rfl) (fun _ _ _ _ => by kernel_rfl) (fun _ _ _ _ => by kernel_rfl) (fun _ _ _ _ => by kernel_rfl) (fun _ _ _ _ => by kernel_rfl) (fun _ _ _ _ => by kernel_rfl) (fun _ _ _ _ => by kernel_rfl)
theorem cyclo_tab : ∀ n : Nat, 1 ≤ n → n ≤ 16 → ∀ (j : Nat) (A : Type) (z : A) (Φ : List Int → A), spec_l01Cyclotomic z (j + 200) (n : Int) Φ = Φ (cycF n) :=
  by16 (fun _ _ _ _ => by kernel_rfl) (fun _ _ _ _ => by kernel_rfl) (fun _ _ _ _ => by kernel_rfl) (fun _ _ _ _ => by kernel_rfl) (fun _ _ _ _ => by kernel_rfl) (fun _ _ _ _ => by kernel_rfl) (fun _ _ _ _ => by kernel_rfl) (fun _ _ _ _ => by kernel_rfl) (fun _ _ _ _ => by kernel_rfl) (fun _ _ _ _ => by kernel_rfl) (fun _ _ _ _ => by kernel_rfl) (fun _ _ _ _ => by kernel_rfl) (fun _ _ _ _ => by kernel_rfl) (fun _ _ _ _ => by kernel_rfl) (fun _ _ _ _ => by kernel_rfl) (fun _ _ _ _ => by kernel_rfl)
theorem field_tab : ∀ n : Nat, 1 ≤ n → n ≤ 16 → ∀ (j : Nat) (A : Type) (z : A) (Φ : Int → Int → List (List Int) → A), impl_fieldOf z (j + 200) (n : Int) Φ = Φ n (cycD n : Int) (cycP n) :=
  by16 (fun _ _ _ _ => by kernel_rfl) (fun _ _ _ _ => by kernel_rfl) (fun _ _ _ _ => by kernel_rfl) (fun _ _ _ _ => by kernel_rfl) (fun _ _ _ _ => by kernel_rfl) (fun _ _ _ _ => by kernel_rfl) (fun _ _ _ _ => by kernel_rfl) (fun _ _ _ _ => by kernel_rfl) (fun _ _ _ _ => by kernel_rfl) (fun _ _ _ _ => by kernel_rfl) (fun _ _ _ _ => by kernel_rfl) (fun _ _ _ _ => by kernel_rfl) (fun _ _ _ _ => by kernel_rfl) (fun _ _ _ _ => by kernel_rfl) (fun _ _ _ _ => by kernel_rfl) (fun _ _ _ _ => by kernel_rfl)
section
variable {A : Type} (z : A) {n : Nat} (h1 : 1 ≤ n) (h2 : n ≤ 16)
include h1 h2
theorem totient_eq (k : Nat) (hk : 60 ≤ k) (Φ : Int → A) : impl_totient z k (n : Int) Φ = Φ (cycD n : Int) := by
  obtain ⟨j, rfl⟩ := le_ex hk
  exact totient_tab n h1 h2 j A z Φ
theorem phi_eq (k : Nat) (hk : 60 ≤ k) (Φ : Int → A) : spec_l01Phi z k (n : Int) Φ = Φ (cycD n : Int) := by
  obtain ⟨j, rfl⟩ := le_ex hk
  exact phi_tab n h1 h2 j A z Φ
theorem cyclo_eq (k : Nat) (hk : 200 ≤ k) (Φ : List Int → A) : spec_l01Cyclotomic z k (n : Int) Φ = Φ (cycF n) := by
  obtain ⟨j, rfl⟩ := le_ex hk
  exact cyclo_tab n h1 h2 j A z Φ
theorem field_eq (k : Nat) (hk : 200 ≤ k) (Φ : Int → Int → List (List Int) → A) : impl_fieldOf z k (n : Int) Φ = Φ n (cycD n : Int) (cycP n) := by
  obtain ⟨j, rfl⟩ := le_ex hk
  exact field_tab n h1 h2 j A z Φ
end
end Go.Proofs.Ytdnpkbhapdkikaa.F
/- Facts on the printed functions of the first layer: what is told of lists. -/
namespace Go.Proofs.Ytdnpkbhapdkikaa.F
open Go.RowKit Go.Proofs.Ytdnpkbhapdkikaa.R
set_option linter.unusedVariables false
set_option linter.unusedSimpArgs false
def smallB (B : Int) (l : List Int) : Bool := l.all fun x => decide (-B ≤ x ∧ x ≤ B)
theorem small_one (l : List Int) : smallB 1000000000 l = smallL l := rfl
theorem w64_up {i : Nat} (h : i < 2000000) : w64 ((i : Int) + 1) = ((i + 1 : Nat) : Int) := by rw [w64_id (by omega) (by omega)]; omega
theorem getD_at {l : List Int} {i : Nat} (h : i < l.length) : l.getD i 0 = l[i] := by simp [List.getD_eq_getElem?_getD, h]
theorem drop_cons {l : List Int} {i : Nat} (h : i < l.length) : l.drop i = l.getD i 0 :: l.drop (i + 1) := by
  rw [getD_at h]; exact List.drop_eq_getElem_cons h
section
variable {A : Type} (z : A)
theorem index_g {l : List Int} (hl : l.length ≤ 1000000) {B : Int} (hB : 0 ≤ B ∧ B ≤ 1000000000) {K0 : Int → A} {K1 Kt : A} (hK : ∀ i : Nat, K0 (i : Int) = Kt) : ∀ (d i k : Nat), i + d = l.length → d + 4 ≤ k →
    slices_IndexFunc_Sint64_int64_c191.g3 z k l B (l.length : Int) (i : Int) K0 K1 = bif smallB B (l.drop i) then K1 else Kt
  | d, i, 0, _, hk => absurd hk (by omega)
  | 0, i, k + 1, hi, hk => by
    rw [slices_IndexFunc_Sint64_int64_c191.g3, if_neg (by omega), List.drop_eq_nil_of_le (by omega)]
    rfl
  | d + 1, i, k + 1, hi, hk => by
    obtain ⟨j, rfl, hj⟩ := up (show d + 3 + 1 ≤ k by omega)
    obtain ⟨m, rfl, hm⟩ := up hj
    have hlt : i < l.length := by omega
    rw [slices_IndexFunc_Sint64_int64_c191.g3, if_pos (by omega), inI_at z hlt]
    simp only [impl_areSmall_1, step_succ]
    rw [w64_id (by omega) (by omega), within_eq, drop_cons hlt]
    simp only [smallB, List.all_cons]
    by_cases h : 0 - B ≤ l.getD i 0 ∧ l.getD i 0 ≤ B
    · rw [decide_eq_true h, decide_eq_true (show -B ≤ l.getD i 0 ∧ l.getD i 0 ≤ B by omega), Bool.not_true, cond_false, w64_up (by omega), Bool.true_and]
      exact index_g hl hB hK d (i + 1) (m + 1 + 1) (by omega) (by omega)
    · rw [decide_eq_false h, decide_eq_false (show ¬ (-B ≤ l.getD i 0 ∧ l.getD i 0 ≤ B) by omega), Bool.not_false, cond_true, Bool.false_and, cond_false]
      exact hK i
theorem areSmall_eq {l : List Int} (hl : l.length ≤ 1000000) {B : Int} (hB : 0 ≤ B ∧ B ≤ 1000000000) (k : Nat) (hk : l.length + 8 ≤ k) (Φ : Bool → A) : impl_areSmall z k l B Φ = Φ (smallB B l) := by
  obtain ⟨k, rfl⟩ := le_ex (show 3 ≤ k by omega)
  simp only [impl_areSmall, slices_ContainsFunc_Sint64_int64_c191, slices_IndexFunc_Sint64_int64_c191, step_succ]
  have h := index_g z hl hB (K0 := fun v1 => Φ (!decide (0 ≤ v1))) (K1 := Φ (!decide ((0 : Int) ≤ -1))) (Kt := Φ false) (fun i => by rw [decide_eq_true (show (0 : Int) ≤ (i : Int) by omega), Bool.not_true]) l.length 0 k (by omega) (by omega)
  rw [List.drop_zero] at h
  refine Eq.trans h ?_
  cases smallB B l <;> rfl
theorem fits_g {l : List Int} (hl : l.length ≤ 1000000) {K0 : Bool → A} {K1 : A} : ∀ (d i k : Nat), i + d = l.length → d + 2 ≤ k →
    spec_l01Fits.g3 z k (i : Int) l K0 K1 = bif smallL (l.drop i) then K1 else K0 false
  | d, i, 0, _, hk => absurd hk (by omega)
  | 0, i, k + 1, hi, hk => by
    rw [spec_l01Fits.g3, if_neg (by omega), List.drop_eq_nil_of_le (by omega)]
    rfl
  | d + 1, i, k + 1, hi, hk => by
    obtain ⟨j, rfl, hj⟩ := up (show 1 + 1 ≤ k by omega)
    have hlt : i < l.length := by omega
    rw [spec_l01Fits.g3, if_pos (by omega), inI_at z hlt, in_eq, drop_cons hlt]
    simp only [smallL, List.all_cons]
    by_cases h : -1000000000 ≤ l.getD i 0 ∧ l.getD i 0 ≤ 1000000000
    · rw [decide_eq_true h, Bool.not_true, cond_false, w64_up (by omega), Bool.true_and]
      exact fits_g hl d (i + 1) (j + 1) (by omega) (by omega)
    · rw [decide_eq_false h, Bool.not_false, cond_true, Bool.false_and, cond_false]
theorem fits_eq {l : List Int} (hl : l.length ≤ 1000000) (n : Int) (k : Nat) (hk : l.length + 4 ≤ k) (Φ : Bool → A) : spec_l01Fits z k n l Φ = Φ (smallL l) := by
  obtain ⟨k, rfl, hk⟩ := up hk
  simp only [spec_l01Fits, step_succ]
  have h := fits_g z hl (K0 := Φ) (K1 := Φ true) l.length 0 k (by omega) (by omega)
  rw [List.drop_zero] at h
  refine Eq.trans h ?_
  cases smallL l <;> rfl
theorem told_eq {l : List Int} (hl : l.length ≤ 1000000) (n : Int) (k : Nat) (hk : l.length + 5 ≤ k) (Φ : Int → List Int → Int → A) : spec_l01Told z k n l Φ = bif smallL l then Φ n l 0 else Φ 0 [] 3 := by
  obtain ⟨k, rfl, hk⟩ := up hk
  simp only [spec_l01Told, step_succ]
  rw [fits_eq z hl n k (by omega)]
  cases smallL l <;> rfl
theorem cycloOf_eq {l : List Int} (hl : l.length ≤ 1000000) (n : Int) (k : Nat) (hk : l.length + 9 ≤ k) (Φ : Int → List Int → Int → A) : impl_cycloOf z k n l Φ = bif smallL l then Φ n l 0 else Φ 0 [] 3 := by
  obtain ⟨k, rfl, hk⟩ := up hk
  simp only [impl_cycloOf, step_succ]
  rw [areSmall_eq z hl (by omega) k (by omega), small_one]
  cases smallL l <;> rfl
/-- Lists alike. -/
theorem like_g {a b : List Int} (ha : a.length ≤ 1000000) (hab : a.length = b.length) {K0 : Bool → A} {K1 : A} : ∀ (d i k : Nat), i + d = a.length → d + 1 ≤ k →
    laws_likeInts.g6 z k a b (i : Int) K0 K1 = bif decide (a.drop i = b.drop i) then K1 else K0 false
  | d, i, 0, _, hk => absurd hk (by omega)
  | 0, i, k + 1, hi, hk => by
    rw [laws_likeInts.g6, if_neg (by omega), List.drop_eq_nil_of_le (by omega), List.drop_eq_nil_of_le (by omega)]
    rfl
  | d + 1, i, k + 1, hi, hk => by
    have hlt : i < a.length := by omega
    rw [laws_likeInts.g6, if_pos (by omega), inI_at z hlt, inI_at z (show i < b.length by omega), drop_cons hlt, drop_cons (show i < b.length by omega)]
    by_cases h : a.getD i 0 = b.getD i 0
    · rw [if_neg (by simpa using h), w64_up (by omega), like_g ha hab d (i + 1) k (by omega) (by omega), h]
      simp
    · rw [if_pos (by simpa using h), decide_eq_false (by simp only [List.cons.injEq]; exact fun e => h e.1), cond_false]
theorem like_eq {a b : List Int} (ha : a.length ≤ 1000000) (k : Nat) (hk : a.length + 2 ≤ k) (Φ : Bool → A) : laws_likeInts z k a b Φ = Φ (decide (a = b)) := by
  obtain ⟨k, rfl, hk⟩ := up hk
  simp only [laws_likeInts, step_succ]
  by_cases h : a.length = b.length
  · rw [if_neg (by omega)]
    have h := like_g z ha h (K0 := Φ) (K1 := Φ true) a.length 0 k (by omega) (by omega)
    rw [List.drop_zero, List.drop_zero] at h
    refine Eq.trans h ?_
    cases decide (a = b) <;> rfl
  · rw [if_pos (by omega), decide_eq_false (fun e => h (by rw [e]))]
theorem equal_g {a b : List Int} (ha : a.length ≤ 1000000) (hab : a.length = b.length) {K0 : Bool → A} {K1 : A} : ∀ (d i k : Nat), i + d = a.length → d + 1 ≤ k →
    slices_Equal_Sint64_int64.g6 z k a b (a.length : Int) (i : Int) K0 K1 = bif decide (a.drop i = b.drop i) then K1 else K0 false
  | d, i, 0, _, hk => absurd hk (by omega)
  | 0, i, k + 1, hi, hk => by
    rw [slices_Equal_Sint64_int64.g6, if_neg (by omega), List.drop_eq_nil_of_le (by omega), List.drop_eq_nil_of_le (by omega)]
    rfl
  | d + 1, i, k + 1, hi, hk => by
    have hlt : i < a.length := by omega
    rw [slices_Equal_Sint64_int64.g6, if_pos (by omega), inI_at z hlt, inI_at z (show i < b.length by omega), drop_cons hlt, drop_cons (show i < b.length by omega)]
    by_cases h : a.getD i 0 = b.getD i 0
    · rw [if_neg (by simpa using h), w64_up (by omega), equal_g ha hab d (i + 1) k (by omega) (by omega), h]
      simp
    · rw [if_pos (by simpa using h), decide_eq_false (by simp only [List.cons.injEq]; exact fun e => h e.1), cond_false]
theorem equal_eq {a b : List Int} (ha : a.length ≤ 1000000) (k : Nat) (hk : a.length + 2 ≤ k) (Φ : Bool → A) : slices_Equal_Sint64_int64 z k a b Φ = Φ (decide (a = b)) := by
  obtain ⟨k, rfl, hk⟩ := up hk
  simp only [slices_Equal_Sint64_int64, step_succ]
  by_cases h : a.length = b.length
  · rw [if_neg (by omega)]
    have h := equal_g z ha h (K0 := Φ) (K1 := Φ true) a.length 0 k (by omega) (by omega)
    rw [List.drop_zero, List.drop_zero] at h
    refine Eq.trans h ?_
    cases decide (a = b) <;> rfl
  · rw [if_pos (by omega), decide_eq_false (fun e => h (by rw [e]))]
theorem same_g {a b : List Int} (ha : a.length ≤ 1000000) (hab : a.length = b.length) {K0 : Bool → A} {K1 : A} : ∀ (d i k : Nat), i + d = a.length → d + 1 ≤ k →
    spec_l01Same.g6 z k (i : Int) a b K0 K1 = bif decide (a.drop i = b.drop i) then K1 else K0 false
  | d, i, 0, _, hk => absurd hk (by omega)
  | 0, i, k + 1, hi, hk => by
    rw [spec_l01Same.g6, if_neg (by omega), List.drop_eq_nil_of_le (by omega), List.drop_eq_nil_of_le (by omega)]
    rfl
  | d + 1, i, k + 1, hi, hk => by
    have hlt : i < a.length := by omega
    rw [spec_l01Same.g6, if_pos (by omega), inI_at z hlt, inI_at z (show i < b.length by omega), drop_cons hlt, drop_cons (show i < b.length by omega)]
    by_cases h : a.getD i 0 = b.getD i 0
    · rw [if_neg (by simpa using h), w64_up (by omega), same_g ha hab d (i + 1) k (by omega) (by omega), h]
      simp
    · rw [if_pos (by simpa using h), decide_eq_false (by simp only [List.cons.injEq]; exact fun e => h e.1), cond_false]
theorem same_eq {a b : List Int} (ha : a.length ≤ 1000000) (m n : Int) (k : Nat) (hk : a.length + 2 ≤ k) (Φ : Bool → A) : spec_l01Same z k m a n b Φ = Φ (decide (m = n ∧ a = b)) := by
  obtain ⟨k, rfl, hk⟩ := up hk
  simp only [spec_l01Same, step_succ]
  by_cases hm : m = n
  · rw [if_neg (by simpa using hm)]
    by_cases h : a.length = b.length
    · rw [if_neg (by omega)]
      have h := same_g z ha h (K0 := Φ) (K1 := Φ true) a.length 0 k (by omega) (by omega)
      rw [List.drop_zero, List.drop_zero] at h
      refine Eq.trans h ?_
      rw [show decide (m = n ∧ a = b) = decide (a = b) by simp [hm]]
      cases decide (a = b) <;> rfl
    · rw [if_pos (by omega), decide_eq_false (fun e => h (by rw [e.2]))]
  · rw [if_pos (by simpa using hm), decide_eq_false (fun e => hm e.1)]
theorem cyclos5_eq {a b : List Int} (ha : a.length ≤ 1000000) (m n : Int) (k : Nat) (hk : a.length + 3 ≤ k) (Φ : Bool → A) : laws_cyclos5 z k m a n b Φ = Φ (decide (m = n ∧ a = b)) := by
  obtain ⟨k, rfl, hk⟩ := up hk
  simp only [laws_cyclos5, step_succ]
  by_cases hm : m = n
  · rw [if_pos hm, like_eq z ha k (by omega)]
    simp [hm]
  · rw [if_neg hm, decide_eq_false (fun e => hm e.1)]
end
end Go.Proofs.Ytdnpkbhapdkikaa.F
/- Facts on the printed functions of the first layer: numbers of a field, reduced, turned, lifted. -/
namespace Go.Proofs.Ytdnpkbhapdkikaa.F
open Go.RowKit Go.Proofs.Ytdnpkbhapdkikaa.R
set_option linter.unusedVariables false
set_option linter.unusedSimpArgs false
def isC (n : Int) (l : List Int) : Bool := decide (1 ≤ n ∧ n ≤ 16) && (decide (l.length = cycD n.toNat) && smallL l)
theorem isC_len {n : Int} {l : List Int} (h : isC n l = true) : (∃ m : Nat, n = m ∧ 1 ≤ m ∧ m ≤ 16 ∧ l.length = cycD m) ∧ smallL l = true := by
  simp only [isC, Bool.and_eq_true, decide_eq_true_eq] at h
  exact ⟨⟨n.toNat, by omega, by omega, by omega, h.2.1⟩, h.2.2⟩
theorem le12 {n : Nat} (h1 : 1 ≤ n) (h2 : n ≤ 16) : cycD n ≤ 12 := (cyc_facts h1 h2).le12
section
variable {A : Type} (z : A)
theorem isCyclo_eq (n : Int) {l : List Int} (hl : l.length ≤ 1000000) (k : Nat) (hk : l.length + 70 ≤ k) (Φ : Bool → A) : impl_IsCyclo z k n l Φ = Φ (isC n l) := by
  obtain ⟨k, rfl⟩ := le_ex (show 3 ≤ k by omega)
  simp only [impl_IsCyclo, step_succ]
  rw [isOrder_eq]
  by_cases h : 1 ≤ n ∧ n ≤ 16
  · obtain ⟨m, rfl⟩ : ∃ m : Nat, n = m := ⟨n.toNat, by omega⟩
    rw [decide_eq_true h, cond_true, totient_eq z (by omega) (by omega) _ (by omega)]
    simp only [isC, Int.toNat_natCast, decide_eq_true h, Bool.true_and]
    by_cases hd : l.length = cycD m
    · rw [if_pos (by omega), areSmall_eq z hl (by omega) _ (by omega), decide_eq_true hd, Bool.true_and, small_one]
    · rw [if_neg (by omega), decide_eq_false hd, Bool.false_and]
  · rw [decide_eq_false h, cond_false]
    simp only [isC, decide_eq_false h, Bool.false_and]
theorem is01_eq (n : Int) {l : List Int} (hl : l.length ≤ 1000000) (k : Nat) (hk : l.length + 70 ≤ k) (Φ : Bool → A) : spec_l01Is z k n l Φ = Φ (isC n l) := by
  obtain ⟨k, rfl⟩ := le_ex (show 3 ≤ k by omega)
  simp only [spec_l01Is, step_succ]
  rw [in_eq]
  by_cases h : 1 ≤ n ∧ n ≤ 16
  · obtain ⟨m, rfl⟩ : ∃ m : Nat, n = m := ⟨n.toNat, by omega⟩
    rw [decide_eq_true h, cond_true, phi_eq z (by omega) (by omega) _ (by omega)]
    simp only [isC, Int.toNat_natCast, decide_eq_true h, Bool.true_and]
    by_cases hd : l.length = cycD m
    · rw [if_pos (by omega), fits_eq z hl _ _ (by omega), decide_eq_true hd, Bool.true_and]
    · rw [if_neg (by omega), decide_eq_false hd, Bool.false_and]
  · rw [decide_eq_false h, cond_false]
    simp only [isC, decide_eq_false h, Bool.false_and]
def codeC (m : Int) (a : List Int) (n : Int) (b : List Int) : Int := bif isC m a && isC n b then (if m = n then 0 else 2) else 1
theorem twoCode_eq (m n : Int) {a b : List Int} (ha : a.length ≤ 1000000) (hb : b.length ≤ 1000000) (k : Nat) (hk : a.length + b.length + 71 ≤ k) (Φ : Int → A) : impl_twoCode z k m a n b Φ = Φ (codeC m a n b) := by
  obtain ⟨k, rfl, hk⟩ := up hk
  simp only [impl_twoCode, step_succ]
  rw [isCyclo_eq z m ha k (by omega), isCyclo_eq z n hb k (by omega)]
  unfold codeC
  cases isC m a <;> cases isC n b <;> simp
  split <;> simp_all
theorem own_eq {l : List Int} (hl : l.length ≤ 1000000) (k : Nat) (hk : 1 ≤ k) (Φ : List Int → A) : spec_l01Own z k l Φ = Φ l := by
  obtain ⟨k, rfl, hk⟩ := up (K := 0) hk
  simp only [spec_l01Own, step_succ]
  rw [apI_ok z (by omega), List.nil_append]
theorem clone_eq {l : List Int} (hl : l.length ≤ 1000000) (k : Nat) (hk : 1 ≤ k) (Φ : List Int → A) : slices_Clone_Sint64_int64 z k l Φ = Φ l := by
  obtain ⟨k, rfl, hk⟩ := up (K := 0) hk
  simp only [slices_Clone_Sint64_int64, step_succ]
  rw [apI_ok z (by omega)]
theorem zero01_eq {n : Nat} (h1 : 1 ≤ n) (h2 : n ≤ 16) (k : Nat) (hk : 61 ≤ k) (Φ : Int → List Int → A) : spec_l01Zero z k n Φ = Φ n (List.replicate (cycD n) 0) := by
  obtain ⟨k, rfl, hk⟩ := up hk
  have := le12 h1 h2
  simp only [spec_l01Zero, step_succ]
  rw [phi_eq z h1 h2 _ (by omega), mkI_at z (by omega)]
/-! reduced -/
theorem red_g11 {F : List Int} {D : Nat} (hF : F.length = D + 1) (v : Int) {x : Nat} (hD : D ≤ x) {K0 : List Int → A} : ∀ (d c k : Nat) (L : List Int), c + d = D + 1 → x < L.length → L.length ≤ 1000 → d + 1 ≤ k →
    spec_l01Reduce.g11 z k (D : Int) (x : Int) v (c : Int) F L K0 = K0 (redIn F v (x - D) d c L)
  | d, c, 0, L, _, _, _, hk => absurd hk (by omega)
  | 0, c, k + 1, L, hc, hx, hl, hk => by
    rw [spec_l01Reduce.g11, if_neg (by omega)]
    rfl
  | d + 1, c, k + 1, L, hc, hx, hl, hk => by
    have e : w64 (w64 ((x : Int) - (D : Int)) + (c : Int)) = ((x - D + c : Nat) : Int) := by
      rw [w64_id (x := (x : Int) - D) (by omega) (by omega), w64_id (by omega) (by omega)]; omega
    rw [spec_l01Reduce.g11, if_pos (by omega), e, inI_at z (by omega), inI_at z (by omega), inI_at z (by omega), w64_up (by omega), red_g11 hF v hD d (c + 1) k _ (by omega) (by rw [List.length_set]; omega) (by rw [List.length_set]; omega) (by omega)]
    rfl
theorem redIn_length (F : List Int) (v : Int) (p : Nat) : ∀ (d c : Nat) (L : List Int), (redIn F v p d c L).length = L.length
  | 0, c, L => rfl
  | d + 1, c, L => by unfold redIn; rw [redIn_length F v p d, List.length_set]
theorem redOut_length (F : List Int) (D : Nat) : ∀ (x : Nat) (L : List Int), (redOut F D x L).length = L.length
  | 0, L => rfl
  | x + 1, L => by
    unfold redOut
    by_cases h : D ≤ x
    · rw [if_pos h, redOut_length F D x, redIn_length]
    · rw [if_neg h]
theorem red_g5 {F : List Int} {D : Nat} (h1 : 1 ≤ D) (hF : F.length = D + 1) {K0 : List Int → A} : ∀ (x k : Nat) (L : List Int), x ≤ L.length → L.length ≤ 1000 → x + D + 4 ≤ k →
    spec_l01Reduce.g5 z k (D : Int) ((x : Int) - 1) F L K0 = K0 (redOut F D x L)
  | x, 0, L, _, _, hk => absurd hk (by omega)
  | 0, k + 1, L, hx, hl, hk => by
    rw [spec_l01Reduce.g5, if_neg (by omega)]
    rfl
  | x + 1, k + 1, L, hx, hl, hk => by
    rw [show ((x + 1 : Nat) : Int) - 1 = (x : Int) by omega, spec_l01Reduce.g5]
    unfold redOut
    by_cases hD : D ≤ x
    · rw [if_pos (by omega), if_pos hD, inI_at z (by omega)]
      refine Eq.trans (red_g11 z hF _ hD (D + 1) 0 k L (by omega) (by omega) hl (by omega)) ?_
      rw [w64_id (by omega) (by omega), red_g5 h1 hF x k _ (by rw [redIn_length]; omega) (by rw [redIn_length]; omega) (by omega)]
      rfl
    · rw [if_neg (by omega), if_neg hD]
theorem red_g18 {R : List Int} {D : Nat} (hD : D ≤ 1000) (hR : R.length ≤ 1000) {K0 : List Int → A} : ∀ (d m k : Nat), m + d = D → d + 1 ≤ k →
    spec_l01Reduce.g18 z k (D : Int) (m : Int) R (tab D fun j => if j < m then rd R j else 0) K0 = K0 (tab D fun j => rd R j)
  | d, m, 0, _, hk => absurd hk (by omega)
  | 0, m, k + 1, hm, hk => by
    rw [spec_l01Reduce.g18, if_neg (by omega), show (tab D fun j => if j < m then rd R j else 0) = tab D fun j => rd R j from tab_congr (fun j hj => if_pos (by omega))]
  | d + 1, m, k + 1, hm, hk => by
    rw [spec_l01Reduce.g18, if_pos (by omega)]
    by_cases hr : m < R.length
    · rw [if_pos (by omega), inI_at z hr, inI_at z (by rw [tab_length]; omega), w64_up (by omega), tab_set]
      have e : (tab D fun j => if m = j then R.getD m 0 else if j < m then rd R j else 0) = tab D fun j => if j < m + 1 then rd R j else 0 := tab_congr (fun j hj => by
        by_cases c : m = j
        · subst c; rw [if_pos rfl, if_pos (by omega)]; rfl
        · rw [if_neg c]
          by_cases c2 : j < m
          · rw [if_pos c2, if_pos (by omega)]
          · rw [if_neg c2, if_neg (by omega)])
      rw [e, red_g18 hD hR d (m + 1) k (by omega) (by omega)]
    · rw [if_neg (by omega), show (tab D fun j => if j < m then rd R j else 0) = tab D fun j => rd R j from tab_congr (fun j hj => by
        by_cases c : j < m
        · rw [if_pos c]
        · rw [if_neg c, rd_out R j (by omega)])]
theorem reduce_eq {n : Nat} (h1 : 1 ≤ n) (h2 : n ≤ 16) {L : List Int} (hl : L.length ≤ 1000) (hw : Wrapped L) (k : Nat) (hk : L.length + 220 ≤ k) (Φ : Int → List Int → A) :
    spec_l01Reduce z k (n : Int) L Φ = Φ n (tab (cycD n) fun m => wrap64 (dot L (cycW n m))) := by
  obtain ⟨k, rfl, hk⟩ := up hk
  have C := cyc_facts h1 h2
  have := C.le12
  have := C.pos
  simp only [spec_l01Reduce, step_succ]
  rw [cyclo_eq z h1 h2 _ (by omega), own_eq z (by omega) _ (by omega), C.lenF, w64_id (x := ((cycD n + 1 : Nat) : Int) - 1) (by omega) (by omega), w64_id (x := (L.length : Int) - 1) (by omega) (by omega), show ((cycD n + 1 : Nat) : Int) - 1 = (cycD n : Int) by omega]
  rw [red_g5 z (by omega) C.lenF L.length k L (Nat.le_refl _) hl (by omega), zero01_eq z h1 h2 _ (by omega), tab_zero, show (tab (cycD n) fun _ => (0 : Int)) = tab (cycD n) fun j => if j < 0 then rd (redOut (cycF n) (cycD n) L.length L) j else 0 from tab_congr (fun j _ => (if_neg (by omega)).symm)]
  refine Eq.trans (red_g18 z (by omega) (by rw [redOut_length]; omega) (cycD n) 0 k (by omega) (by omega)) ?_
  rw [show (tab (cycD n) fun j => rd (redOut (cycF n) (cycD n) L.length L) j) = tab (cycD n) fun m => wrap64 (dot L (cycW n m)) from tab_congr (fun j hj => redL_rd C h1 L hw j hj)]
end
end Go.Proofs.Ytdnpkbhapdkikaa.F
/- Facts on the printed functions of the first layer: images, lifts, sums. -/
namespace Go.Proofs.Ytdnpkbhapdkikaa.F
open Go.RowKit Go.Proofs.Ytdnpkbhapdkikaa.R
set_option linter.unusedVariables false
set_option linter.unusedSimpArgs false
theorem mul_bd {i : Nat} {a : Int} (hi : i ≤ 100) (ha : -1000 ≤ a ∧ a ≤ 1000) : -1000000 ≤ (i : Int) * a ∧ (i : Int) * a ≤ 1000000 := by
  have := mul_le (a := (i : Int)) (b := a) (A := 1000) (B := 1000) (by omega) ha
  omega
theorem round_eq {v : Int} {n : Nat} (hv : -1000000 ≤ v ∧ v ≤ 1000000) (h1 : 1 ≤ n) (h2 : n ≤ 1000) : Int.tmod (w64 (Int.tmod (w64 v) n + n)) n = v % n := by
  obtain ⟨a0, a1⟩ := tmod_lt (a := v) (n := n) (by omega)
  rw [w64_id (x := v) (by omega) (by omega), w64_id (by omega) (by omega), Int.tmod_eq_emod_of_nonneg (by omega), Int.add_emod_right, tmod_emod]
theorem mod_nat (v : Int) {n : Nat} (h1 : 1 ≤ n) : v % n = (((v % n).toNat : Nat) : Int) ∧ (v % n).toNat < n := by
  have q0 := Int.emod_nonneg v (b := n) (by omega)
  have q1 := Int.emod_lt_of_pos v (b := n) (by omega)
  exact ⟨by omega, by omega⟩
section
variable {A : Type} (z : A)
theorem gal_g {n : Nat} (h1 : 1 ≤ n) (h2 : n ≤ 16) {x : List Int} (hx : x.length ≤ 100) {a : Int} (ha : -1000 ≤ a ∧ a ≤ 1000) {K0 : List Int → A} : ∀ (d i k : Nat) (G : List Int), i + d = x.length → G.length = n → d + 1 ≤ k →
    spec_l01Galois.g5 z k a (n : Int) (i : Int) x G K0 = K0 (galIn n x a d i G)
  | d, i, 0, G, _, _, hk => absurd hk (by omega)
  | 0, i, k + 1, G, hi, hG, hk => by
    rw [spec_l01Galois.g5, if_neg (by omega)]
    rfl
  | d + 1, i, k + 1, G, hi, hG, hk => by
    have hm := mul_bd (i := i) (by omega) ha
    obtain ⟨q0, q1⟩ := mod_nat ((i : Int) * a) h1
    rw [spec_l01Galois.g5, if_pos (by omega), gd_ok z (by omega)]
    dsimp only
    rw [gd_ok z (by omega), round_eq hm h1 (by omega), q0, inI_at z (by omega), inI_at z (by omega), inI_at z (by omega), w64_up (by omega), gal_g h1 h2 hx ha d (i + 1) k _ (by omega) (by rw [List.length_set]; exact hG) (by omega)]
    rfl
theorem galois_eq {n : Nat} (h1 : 1 ≤ n) (h2 : n ≤ 16) {x : List Int} (hx : x.length ≤ 100) {a : Int} (ha : -1000 ≤ a ∧ a ≤ 1000) (k : Nat) (hk : 340 ≤ k) (Φ : Int → List Int → A) :
    spec_l01Galois z k (n : Int) x a Φ = Φ n (imT n x a) := by
  obtain ⟨k, rfl, hk⟩ := up (K := 339) hk
  simp only [spec_l01Galois, step_succ]
  obtain ⟨a1, a2, a3⟩ := galIn_facts n h1 x a x.length 0 (List.replicate n 0) (by simp) (wrapped_zeros n)
  rw [mkI_at z (by omega)]
  refine Eq.trans (gal_g z h1 h2 hx ha x.length 0 k _ (by omega) (by simp) (by omega)) ?_
  rw [reduce_eq z h1 h2 (by rw [a1]; omega) a2 k (by rw [a1]; omega)]
  congr 1
  exact tab_congr (fun m _ => by
    refine ((a3 (cycW n m)).trans (Cg.of ?_)).eq
    rw [dot_zeros, Int.zero_add]; rfl)
theorem bar_eq {n : Nat} (h1 : 1 ≤ n) (h2 : n ≤ 16) {x : List Int} (hx : x.length ≤ 100) (k : Nat) (hk : 341 ≤ k) (Φ : Int → List Int → A) : spec_l01Bar z k (n : Int) x Φ = Φ n (imT n x (-1)) := by
  obtain ⟨k, rfl, hk⟩ := up (K := 340) hk
  simp only [spec_l01Bar, step_succ]
  exact galois_eq z h1 h2 hx (by omega) k (by omega) Φ
theorem with178_in {row : List Int} (hr : row.length ≤ 1000) (v : Int) {K0 : List Int → A} : ∀ (d c k : Nat) (o : List Int), c + d = row.length → o.length = row.length → d + 1 ≤ k →
    impl_field_with_c178.g10 z k v row (row.length : Int) (c : Int) o K0 = K0 (addIn row v 0 d c o)
  | d, c, 0, o, _, _, hk => absurd hk (by omega)
  | 0, c, k + 1, o, hc, ho, hk => by
    rw [impl_field_with_c178.g10, if_neg (by omega)]
    rfl
  | d + 1, c, k + 1, o, hc, ho, hk => by
    rw [impl_field_with_c178.g10, if_pos (by omega), inI_at z (by omega), inI_at z (by omega), inI_at z (by omega), w64_up (by omega), with178_in hr v d (c + 1) k _ (by omega) (by rw [List.length_set]; exact ho) (by omega)]
    rw [show addIn row v 0 (d + 1) c o = addIn row v 0 d (c + 1) (o.set c (w64 (o.getD c 0 + w64 (v * row.getD c 0)))) by rw [addIn, Nat.zero_add]; rfl]
theorem with178_g {n : Nat} (h1 : 1 ≤ n) (h2 : n ≤ 16) {x : List Int} (hx : x.length ≤ 100) {a : Int} {q : Nat → Nat}
    (hq : ∀ i : Nat, i < x.length → q i < n ∧ ∀ k (K0 : Int → A), (impl_field_image_1 z (k + 1) (i : Int) a fun v3 => impl_around z (k + 1) v3 (n : Int) K0) = K0 (q i : Int)) {K0 : List Int → A} : ∀ (d i k : Nat) (o : List Int), i + d = x.length → o.length = cycD n → d + 20 ≤ k →
    impl_field_with_c178.g4 z k (n : Int) (cycP n) a x (x.length : Int) (i : Int) o K0 = K0 (imIn n x q d i o)
  | d, i, 0, o, _, _, hk => absurd hk (by omega)
  | 0, i, k + 1, o, hi, ho, hk => by
    rw [impl_field_with_c178.g4, if_neg (by omega)]
    rfl
  | d + 1, i, k + 1, o, hi, ho, hk => by
    obtain ⟨q1, q2⟩ := hq i (by omega)
    have C := cyc_facts h1 h2
    obtain ⟨r1, r2, r3⟩ := cycRow_facts C h1 q1
    have := C.le12
    obtain ⟨j, rfl, hj⟩ := up (show d + 19 + 1 ≤ k by omega)
    rw [impl_field_with_c178.g4, if_pos (by omega), inI_at z (by omega), q2, inI_at z (by rw [C.lenP]; omega), w64_up (by omega)]
    refine Eq.trans (with178_in z (row := cycRow n (q i)) (by omega) _ (cycRow n (q i)).length 0 (j + 1) o (by omega) (by omega) (by omega)) ?_
    rw [r1]
    have hl := (addIn_length (cycRow n (q i)) (rd x i) 0 (cycD n) 0 o).trans ho
    exact with178_g h1 h2 hx hq d (i + 1) (j + 1) _ (by omega) hl (by omega)
theorem image_eq {n : Nat} (h1 : 1 ≤ n) (h2 : n ≤ 16) {x : List Int} (hx : x.length ≤ 100) {a : Int} (ha : -1000 ≤ a ∧ a ≤ 1000) (k : Nat) (hk : 130 ≤ k) (Φ : List Int → A) :
    impl_field_image z k (n : Int) (cycD n : Int) (cycP n) x a Φ = Φ (imT n x a) := by
  obtain ⟨k, rfl⟩ := le_ex (show 2 ≤ k by omega)
  have := le12 h1 h2
  simp only [impl_field_image, impl_field_with_c178, step_succ]
  rw [mkI_at z (by omega)]
  refine Eq.trans (with178_g z h1 h2 hx (q := fun i => (((i : Int) * a) % n).toNat) (fun i hi => ⟨(mod_nat _ h1).2, fun k K0 => ?_⟩) x.length 0 k _ (by omega) (by simp) (by omega)) ?_
  · simp only [impl_field_image_1, step_succ]
    have hm := mul_bd (i := i) (by omega) ha
    rw [Int.mul_comm a, w64_id (by omega) (by omega), around_eq z _ (by omega) (by omega)]
    exact congrArg _ (mod_nat _ h1).1
  · rw [imIn_tab (cyc_facts h1 h2) h1 x _ fun j hj => (mod_nat _ h1).2]
    rfl
end
end Go.Proofs.Ytdnpkbhapdkikaa.F
/- Facts on the printed functions of the first layer: products, with sums that may be great. -/
namespace Go.Proofs.Ytdnpkbhapdkikaa.F
open Go.RowKit Go.Proofs.Ytdnpkbhapdkikaa.R
set_option linter.unusedVariables false
set_option linter.unusedSimpArgs false
/-- The sums stand at T, of at most c numbers each. -/
def Sums (D : Nat) (o : List (Int × Nat)) (T : Nat → Int) (c : Nat) : Prop := o.length = D ∧ ∀ j, j < D → (o.getD j (0, 0)).1 = w64 (T j) ∧ Near (o.getD j (0, 0)).2 (T j) c ∧ (T j).natAbs ≤ 16000000000000000000 * c
theorem Near.more {b : Nat} {T : Int} {c c' : Nat} (h : Near b T c) (e : c ≤ c') : Near b T c' := by
  obtain ⟨n, h1, h2⟩ := h
  exact ⟨n, h1, Nat.le_trans h2 (Nat.mul_le_mul_right _ e)⟩
theorem Sums.more {D : Nat} {o : List (Int × Nat)} {T : Nat → Int} {c c' : Nat} (h : Sums D o T c) (e : c ≤ c') : Sums D o T c' :=
  ⟨h.1, fun j hj => by obtain ⟨h1, h2, h3⟩ := h.2 j hj; exact ⟨h1, h2.more e, Nat.le_trans h3 (Nat.mul_le_mul_left _ e)⟩⟩
theorem Sums.congr {D : Nat} {o : List (Int × Nat)} {T S : Nat → Int} {c : Nat} (h : Sums D o T c) (e : ∀ j, j < D → T j = S j) : Sums D o S c :=
  ⟨h.1, fun j hj => by rw [← e j hj]; exact h.2 j hj⟩
theorem sums_zero (D : Nat) : Sums D (List.replicate D ((0 : Int), (0 : Nat))) (fun _ => 0) 0 :=
  ⟨by simp, fun j hj => by
    have : (List.replicate D ((0 : Int), (0 : Nat))).getD j (0, 0) = (0, 0) := by simp [List.getD_eq_getElem?_getD, hj]
    rw [this]
    exact ⟨rfl, near_zero, by simp⟩⟩
theorem w64_cg (a b : Int) : w64 (w64 a + w64 b) = w64 (a + b) := ((Cg.wrap a).add (Cg.wrap b)).eq
/-- One number more at one place. -/
theorem sumAdd {D : Nat} {o : List (Int × Nat)} {T : Nat → Int} {c : Nat} (h : Sums D o T c) (hc : c ≤ 200000) {m : Nat} (hm : m < D) {x y : Int} (hx : x.natAbs ≤ 1000000000) (hy : y.natAbs ≤ 16000000000) :
    ∃ s, (∀ (A : Type) (z : A) (k : Nat) (Φ : Int → Nat → A), impl_sum_add z (k + 1) (o.getD m (0, 0)).1 (o.getD m (0, 0)).2 x y Φ = Φ (w64 (T m + x * y)) s) ∧
      Sums D (o.set m (w64 (T m + x * y), s)) (fun j => if m = j then T j + x * y else T j) (c + 1) := by
  obtain ⟨h1, h2, h3⟩ := h.2 m hm
  have hxy : (x * y).natAbs ≤ 16000000000000000000 := by
    rw [Int.natAbs_mul]
    exact Nat.mul_le_mul hx hy
  obtain ⟨p, s, e1, e2, e3⟩ := near_add h2 (x := x) (y := y) (by omega) (by omega) (by omega) (by omega) (by omega)
  refine ⟨s, fun A z k Φ => ?_, by rw [List.length_set]; exact h.1, fun j hj => ?_⟩
  · simp only [impl_sum_add, step_succ]
    rw [e1]
    simp only [optN]
    rw [e2]
    simp only []
    rw [h1, w64_cg]
  · by_cases e : m = j
    · subst e
      have : (o.set m (w64 (T m + x * y), s)).getD m (0, 0) = (w64 (T m + x * y), s) := by
        simp [List.getD_eq_getElem?_getD, List.getElem?_set, h.1, hm]
      rw [this]
      dsimp only
      rw [if_pos rfl]
      exact ⟨rfl, e3, by omega⟩
    · have : (o.set m (w64 (T m + x * y), s)).getD j (0, 0) = o.getD j (0, 0) := by
        simp [List.getD_eq_getElem?_getD, List.getElem?_set, e]
      rw [this]
      dsimp only
      rw [if_neg e]
      obtain ⟨g1, g2, g3⟩ := h.2 j hj
      exact ⟨g1, g2.more (by omega), by omega⟩
/-- A row of a power, times a product. -/
theorem prod15 {D : Nat} {row : List Int} (hr : row.length = D) (hD : D ≤ 12) (hrow : ∀ j : Nat, j < D → -1 ≤ rd row j ∧ rd row j ≤ 1) {x y : Int} (hx : x.natAbs ≤ 1000000000) (hy : y.natAbs ≤ 16000000000) :
    ∀ (d m : Nat) (o : List (Int × Nat)) (T : Nat → Int) (c : Nat), m + d = D → c + d ≤ 200000 → Sums D o T c →
    ∃ o', (∀ (A : Type) (z : A) (k : Nat) (K0 : List (Int × Nat) → A), d + 3 ≤ k → impl_field_product.g15 z k x y row (row.length : Int) (m : Int) o K0 = K0 o') ∧ Sums D o' (fun j => if m ≤ j then T j + rd row j * x * y else T j) (c + d)
  | 0, m, o, T, c, hm, hc, hs => by
    refine ⟨o, fun A z k K0 hk => ?_, hs.congr fun j hj => by rw [if_neg (by omega)]⟩
    obtain ⟨k, rfl, _⟩ := up (show 2 + 1 ≤ k by omega)
    rw [impl_field_product.g15, if_neg (by omega)]
  | d + 1, m, o, T, c, hm, hc, hs => by
    have hmD : m < D := by omega
    have hro := hrow m hmD
    by_cases h0 : rd row m = 0
    · obtain ⟨o', h1, h2⟩ := prod15 hr hD hrow hx hy d (m + 1) o T c (by omega) (by omega) hs
      refine ⟨o', fun A z k K0 hk => ?_, (h2.more (by omega)).congr fun j hj => ?_⟩
      · obtain ⟨k, rfl, _⟩ := up (show d + 3 + 1 ≤ k by omega)
        have h0' : row.getD m 0 = 0 := h0
        rw [impl_field_product.g15, if_pos (by omega), inI_at z (by omega), if_neg (by simpa using h0'), w64_up (by omega)]
        exact h1 A z k K0 (by omega)
      · by_cases c1 : m + 1 ≤ j
        · rw [if_pos c1, if_pos (by omega)]
        · rw [if_neg c1]
          by_cases c2 : m ≤ j
          · have : j = m := by omega
            subst this
            rw [if_pos c2, h0, Int.zero_mul, Int.zero_mul, Int.add_zero]
          · rw [if_neg c2]
    · have hnx : (rd row m * x).natAbs ≤ 1000000000 := by
        rcases (show rd row m = 1 ∨ rd row m = -1 by omega) with e | e <;> rw [e] <;> omega
      obtain ⟨s, e1, e2⟩ := sumAdd hs (by omega) hmD hnx hy
      obtain ⟨o', h1, h2⟩ := prod15 hr hD hrow hx hy d (m + 1) _ _ (c + 1) (by omega) (by omega) e2
      refine ⟨o', fun A z k K0 hk => ?_, (h2.more (by omega)).congr fun j hj => ?_⟩
      · obtain ⟨k, rfl, _⟩ := up (show d + 3 + 1 ≤ k by omega)
        obtain ⟨i, rfl, _⟩ := up (show d + 2 + 1 ≤ k by omega)
        have h0' : row.getD m 0 ≠ 0 := h0
        have hw : w64 (row.getD m 0 * x) = rd row m * x := w64_id (x := rd row m * x) (by omega) (by omega)
        rw [impl_field_product.g15, if_pos (by omega), inI_at z (by omega), if_pos h0', inI_at z (by rw [hs.1]; omega), hw, e1, w64_up (by omega)]
        exact h1 A z (i + 1) K0 (by omega)
      · by_cases c1 : m + 1 ≤ j
        · rw [if_pos c1, if_neg (show ¬ m = j by omega), if_pos (show m ≤ j by omega)]
        · rw [if_neg c1]
          by_cases c2 : m ≤ j
          · have : j = m := by omega
            subst this
            rw [if_pos rfl, if_pos c2]
          · rw [if_neg (show ¬ m = j by omega), if_neg c2]
theorem prod7 {n : Nat} (h1 : 1 ≤ n) (h2 : n ≤ 16) {i : Nat} (hi : i ≤ 1000) {x : Int} (hx : x.natAbs ≤ 1000000000) {y : List Int} (hy : ∀ q : Nat, q < y.length → (rd y q).natAbs ≤ 16000000000) (hyl : y.length ≤ 1000) :
    ∀ (d m : Nat) (o : List (Int × Nat)) (T : Nat → Int) (c : Nat), m + d = y.length → c + 12 * d ≤ 200000 → Sums (cycD n) o T c →
    ∃ o', (∀ (A : Type) (z : A) (k : Nat) (K0 : List (Int × Nat) → A), d + 20 ≤ k → impl_field_product.g7 z k (n : Int) (cycP n) (i : Int) x y (y.length : Int) (m : Int) o K0 = K0 o') ∧
      Sums (cycD n) o' (fun j => T j + x * sumF m d (fun q => rd y q * cycW n j (i + q))) (c + 12 * d)
  | 0, m, o, T, c, hm, hc, hs => by
    refine ⟨o, fun A z k K0 hk => ?_, hs.congr fun j hj => by simp [sumF]⟩
    obtain ⟨k, rfl, _⟩ := up (show 19 + 1 ≤ k by omega)
    rw [impl_field_product.g7, if_neg (by omega)]
  | d + 1, m, o, T, c, hm, hc, hs => by
    have hml : m < y.length := by omega
    have C := cyc_facts h1 h2
    have hlt : (i + m) % n < n := Nat.mod_lt _ (by omega)
    obtain ⟨r1, r2, r3⟩ := cycRow_facts C h1 hlt
    have skip : x * rd y m = 0 → (∀ (A : Type) (z : A) (k : Nat) (K0 : List (Int × Nat) → A), d + 20 + 1 ≤ k + 1 → impl_field_product.g7 z (k + 1) (n : Int) (cycP n) (i : Int) x y (y.length : Int) (m : Int) o K0 = impl_field_product.g7 z k (n : Int) (cycP n) (i : Int) x y (y.length : Int) ((m + 1 : Nat) : Int) o K0) →
        ∃ o', (∀ (A : Type) (z : A) (k : Nat) (K0 : List (Int × Nat) → A), d + 1 + 20 ≤ k → impl_field_product.g7 z k (n : Int) (cycP n) (i : Int) x y (y.length : Int) (m : Int) o K0 = K0 o') ∧
          Sums (cycD n) o' (fun j => T j + x * sumF m (d + 1) (fun q => rd y q * cycW n j (i + q))) (c + 12 * (d + 1)) := by
      intro h0 hstep
      obtain ⟨o', g1, g2⟩ := prod7 h1 h2 hi hx hy hyl d (m + 1) o T c (by omega) (by omega) hs
      refine ⟨o', fun A z k K0 hk => ?_, (g2.more (by omega)).congr fun j hj => ?_⟩
      · obtain ⟨k, rfl, _⟩ := up (show d + 20 + 1 ≤ k by omega)
        rw [hstep A z k K0 (by omega)]
        exact g1 A z k K0 (by omega)
      · rw [sumF, Int.mul_add, ← Int.mul_assoc x, h0, Int.zero_mul, Int.zero_add]
    by_cases hx0 : x = 0
    · refine skip (by rw [hx0, Int.zero_mul]) fun A z k K0 hk => ?_
      rw [impl_field_product.g7, if_pos (by omega), inI_at z hml, if_pos hx0, w64_up (by omega)]
    by_cases hy0 : rd y m = 0
    · refine skip (by rw [hy0, Int.mul_zero]) fun A z k K0 hk => ?_
      have hy0' : y.getD m 0 = 0 := hy0
      rw [impl_field_product.g7, if_pos (by omega), inI_at z hml, if_neg hx0, if_pos hy0', w64_up (by omega)]
    obtain ⟨o1, e1, e2⟩ := prod15 (row := cycRow n ((i + m) % n)) r1 C.le12 (fun j hj => by
      rw [rd_nat _ _ (by omega)]
      exact r2 _ (List.getElem_mem _)) hx (hy m hml) (cycD n) 0 o T c (by omega) (by have := C.le12; omega) hs
    obtain ⟨o', g1, g2⟩ := prod7 h1 h2 hi hx hy hyl d (m + 1) o1 _ (c + 12) (by omega) (by omega) (e2.more (by have := C.le12; omega))
    refine ⟨o', fun A z k K0 hk => ?_, (g2.more (by omega)).congr fun j hj => ?_⟩
    · obtain ⟨k, rfl, _⟩ := up (show d + 20 + 1 ≤ k by omega)
      have hy0' : ¬ y.getD m 0 = 0 := hy0
      have hq : Int.tmod (w64 ((i : Int) + (m : Int))) (n : Int) = (((i + m) % n : Nat) : Int) := by
        rw [w64_id (by omega) (by omega), Int.tmod_eq_emod_of_nonneg (by omega), Int.natCast_emod, Int.natCast_add]
      rw [impl_field_product.g7, if_pos (by omega), inI_at z hml, if_neg hx0, if_neg hy0', gd_ok z (by omega), hq, inI_at z (by rw [C.lenP]; exact hlt), w64_up (by omega)]
      refine Eq.trans (e1 A z k _ (by have := C.le12; omega)) ?_
      exact g1 A z k K0 (by omega)
    · rw [if_pos (Nat.zero_le _), sumF, r3 j, cycW_mod, Int.mul_add, Int.add_assoc]
      congr 2
      rw [Int.mul_comm (cycW n j (i + m)) x, Int.mul_assoc, Int.mul_comm (cycW n j (i + m))]
theorem prod1 {n : Nat} (h1 : 1 ≤ n) (h2 : n ≤ 16) {x y : List Int} (hx : ∀ q : Nat, q < x.length → (rd x q).natAbs ≤ 1000000000) (hxl : x.length ≤ 100) (hy : ∀ q : Nat, q < y.length → (rd y q).natAbs ≤ 16000000000) (hyl : y.length ≤ 100) :
    ∀ (d i : Nat) (o : List (Int × Nat)) (T : Nat → Int) (c : Nat), i + d = x.length → c + 1200 * d ≤ 200000 → Sums (cycD n) o T c →
    ∃ o', (∀ (A : Type) (z : A) (k : Nat) (K0 : List (Int × Nat) → A), d + 150 ≤ k → impl_field_product.g1 z k (n : Int) (cycP n) y x (x.length : Int) (i : Int) o K0 = K0 o') ∧
      Sums (cycD n) o' (fun j => T j + sumF i d (fun p => rd x p * sumF 0 y.length (fun q => rd y q * cycW n j (p + q)))) (c + 1200 * d)
  | 0, i, o, T, c, hm, hc, hs => by
    refine ⟨o, fun A z k K0 hk => ?_, hs.congr fun j hj => by simp [sumF]⟩
    obtain ⟨k, rfl, _⟩ := up (show 149 + 1 ≤ k by omega)
    rw [impl_field_product.g1, if_neg (by omega)]
  | d + 1, i, o, T, c, hm, hc, hs => by
    have hil : i < x.length := by omega
    obtain ⟨o1, e1, e2⟩ := prod7 h1 h2 (i := i) (by omega) (hx i hil) hy (by omega) y.length 0 o T c (by omega) (by omega) hs
    obtain ⟨o', g1, g2⟩ := prod1 h1 h2 hx hxl hy hyl d (i + 1) o1 _ (c + 1200) (by omega) (by omega) (e2.more (by omega))
    refine ⟨o', fun A z k K0 hk => ?_, (g2.more (by omega)).congr fun j hj => ?_⟩
    · obtain ⟨k, rfl, _⟩ := up (show d + 150 + 1 ≤ k by omega)
      rw [impl_field_product.g1, if_pos (by omega), inI_at z hil, w64_up (by omega)]
      refine Eq.trans (e1 A z k _ (by omega)) ?_
      exact g1 A z k K0 (by omega)
    · rw [sumF, Int.add_assoc]
/-- What sums are told as. -/
theorem values4 {D : Nat} {o : List (Int × Nat)} {T : Nat → Int} {c : Nat} (h : Sums D o T c) (hc : c ≤ 400000) (hD : D ≤ 1000) {A : Type} (z : A) {K0 : Bool → List Int → A} : ∀ (d i k : Nat) (ok : Bool) (l : List Int), i + d = D → l.length = i → d + 4 ≤ k →
    impl_values.g4 z k o ok (o.length : Int) (i : Int) l K0 = K0 (ok && ((List.range' i d).all fun j => fitsB (T j))) (l ++ (List.range' i d).map fun j => w64 (T j))
  | d, i, 0, ok, l, _, _, hk => absurd hk (by omega)
  | 0, i, k + 1, ok, l, hi, hl, hk => by
    rw [impl_values.g4, if_neg (by rw [h.1]; omega)]
    simp
  | d + 1, i, k + 1, ok, l, hi, hl, hk => by
    obtain ⟨k, rfl, _⟩ := up (show d + 3 + 1 ≤ k by omega)
    obtain ⟨k, rfl, _⟩ := up (show d + 2 + 1 ≤ k by omega)
    have hol := h.1
    obtain ⟨g1, g2, g3⟩ := h.2 i (by omega)
    have hf := near_fits g2 hc
    have hv : ∀ Ψ : Int → Bool → A, impl_sum_value z (k + 1 + 1) (o.getD i (0, 0)).1 (o.getD i (0, 0)).2 Ψ = Ψ (w64 (T i)) (fitsB (T i)) := by
      intro Ψ
      simp only [impl_sum_value, step_succ]
      rw [within_eq, g1, ← hf, w64_wrap]
      cases decide (-1000000000 ≤ wrap64 (T i) ∧ wrap64 (T i) ≤ 1000000000)
      · rfl
      · cases (FloatKind.format .f64).order (o.getD i (0, 0)).2 4876203697187506176 == some .lt <;> rfl
    rw [impl_values.g4, if_pos (by rw [hol]; omega), inI_at z (by omega), hv, apI_ok z (by omega), w64_up (by omega), List.range'_succ, List.all_cons, List.map_cons]
    cases ok with
    | true =>
      rw [cond_true, values4 h hc hD z d (i + 1) (k + 1 + 1) _ _ (by omega) (by simp [hl]) (by omega)]
      simp
    | false =>
      rw [cond_false, values4 h hc hD z d (i + 1) (k + 1 + 1) _ _ (by omega) (by simp [hl]) (by omega)]
      simp
theorem fits_small (T : Int) : fitsB T = decide (-1000000000 ≤ T ∧ T ≤ 1000000000) := by
  unfold fitsB
  rw [Bool.eq_iff_iff, decide_eq_true_eq, decide_eq_true_eq]
  omega
theorem times_eq {n : Nat} (h1 : 1 ≤ n) (h2 : n ≤ 16) {x y : List Int} (hx : within 1000000000 x) (hxl : x.length ≤ 100) (hy : within 16000000000 y) (hyl : y.length ≤ 100) {A : Type} (z : A) (k : Nat) (hk : 260 ≤ k) (Φ : List Int → Bool → A) :
    impl_field_times z k (n : Int) (cycD n : Int) (cycP n) x y Φ = Φ (tab (cycD n) fun m => w64 (bil n x y m)) (okB n x y) := by
  have C := cyc_facts h1 h2
  have hD := C.le12
  obtain ⟨o', g1, g2⟩ := prod1 h1 h2 (x := x) (y := y) (fun q hq => by have := hx q hq; omega) hxl (fun q hq => by have := hy q hq; omega) hyl x.length 0 _ _ 0 (by omega) (by omega) (sums_zero (cycD n))
  obtain ⟨k, rfl⟩ := le_ex (show 2 ≤ k by omega)
  simp only [impl_field_times, impl_field_product, impl_values, step_succ]
  rw [mkI_at z (by omega)]
  refine Eq.trans (g1 A z (k) _ (by omega)) ?_
  refine Eq.trans (values4 g2 (by omega) (by omega) z (cycD n) 0 k true [] (by omega) rfl (by omega)) ?_
  rw [Bool.true_and, List.nil_append, ← List.range_eq_range']
  have e1 : (List.range (cycD n)).map (fun j => w64 (0 + sumF 0 x.length (fun p => rd x p * sumF 0 y.length (fun q => rd y q * cycW n j (p + q))))) = tab (cycD n) fun m => w64 (bil n x y m) :=
    List.map_congr_left fun j _ => by rw [Int.zero_add]; rfl
  have e2 : ((List.range (cycD n)).all fun j => fitsB (0 + sumF 0 x.length (fun p => rd x p * sumF 0 y.length (fun q => rd y q * cycW n j (p + q))))) = okB n x y := by
    rw [Bool.eq_iff_iff]
    unfold okB
    rw [smallL_tab, List.all_eq_true]
    constructor
    · intro h m hm
      have := h m (List.mem_range.2 hm)
      rw [fits_small, Int.zero_add, decide_eq_true_eq] at this
      exact this
    · intro h m hm
      rw [fits_small, Int.zero_add, decide_eq_true_eq]
      exact h m (List.mem_range.1 hm)
  rw [← e1, ← e2]
end Go.Proofs.Ytdnpkbhapdkikaa.F
/- Facts on the functions of the first layer, whole: images, conjugates, products, sums. -/
namespace Go.Proofs.Ytdnpkbhapdkikaa.F
open Go.RowKit Go.Proofs.Ytdnpkbhapdkikaa.R
set_option linter.unusedVariables false
set_option linter.unusedSimpArgs false
def told3 (n : Int) (l : List Int) : Int × List Int × Int := if smallL l = true then (n, l, 0) else (0, [], 3)
def gal3 (n : Int) (x : List Int) (a : Int) : Int × List Int × Int := if isC n x = true then (if (1 ≤ a ∧ a ≤ n) ∧ Int.gcd a n = 1 then told3 n (imT n.toNat x a) else (0, [], 2)) else (0, [], 1)
def bar3 (n : Int) (x : List Int) : Int × List Int × Int := if isC n x = true then told3 n (imT n.toNat x (-1)) else (0, [], 1)
def mul3 (m : Int) (x : List Int) (n : Int) (y : List Int) : Int × List Int × Int := if codeC m x n y ≠ 0 then (0, [], codeC m x n y) else match mulO m.toNat x y with
  | some l => (m, l, 0)
  | none => (0, [], 3)
def plusL (x y : List Int) (k : Int) : List Int := addIn y k 0 y.length 0 x
def add3 (m : Int) (x : List Int) (n : Int) (y : List Int) (k : Int) : Int × List Int × Int := if codeC m x n y ≠ 0 then (0, [], codeC m x n y) else if -1000 ≤ k ∧ k ≤ 1000 then told3 m (plusL x y k) else (0, [], 2)
def real2 (n : Int) (x : List Int) : Bool × Int := if isC n x = true then (decide (imT n.toNat x (-1) = x), 0) else (false, 1)
theorem imT_len (n : Nat) (x : List Int) (a : Int) : (imT n x a).length = cycD n := tab_length _ _
theorem isC_x {n : Int} {x : List Int} (h : isC n x = true) : ∃ m : Nat, n = m ∧ 1 ≤ m ∧ m ≤ 16 ∧ x.length = cycD m ∧ x.length ≤ 12 ∧ GoodZ m x := by
  obtain ⟨⟨m, h1, h2, h3, h4⟩, h5⟩ := isC_len h
  have := le12 h2 h3
  exact ⟨m, h1, h2, h3, h4, by omega, h4, smallL_within.1 h5⟩
theorem codeC_zero {m n : Int} {x y : List Int} (h : codeC m x n y = 0) : isC m x = true ∧ isC n y = true ∧ m = n := by
  unfold codeC at h
  cases h1 : isC m x <;> cases h2 : isC n y <;> simp [h1, h2] at h
  exact ⟨rfl, rfl, h⟩
section
variable {A : Type} (z : A)
theorem told3_eq {l : List Int} (hl : l.length ≤ 1000000) (n : Int) (k : Nat) (hk : l.length + 5 ≤ k) (Φ : Int → List Int → Int → A) : spec_l01Told z k n l Φ = Φ (told3 n l).1 (told3 n l).2.1 (told3 n l).2.2 := by
  rw [told_eq z hl n k hk]
  unfold told3
  cases smallL l <;> rfl
theorem cycloOf3_eq {l : List Int} (hl : l.length ≤ 1000000) (n : Int) (k : Nat) (hk : l.length + 9 ≤ k) (Φ : Int → List Int → Int → A) : impl_cycloOf z k n l Φ = Φ (told3 n l).1 (told3 n l).2.1 (told3 n l).2.2 := by
  rw [cycloOf_eq z hl n k hk]
  unfold told3
  cases smallL l <;> rfl
theorem galoisImage_eq (n : Int) {x : List Int} (hx : x.length ≤ 1000000) (a : Int) (k : Nat) (hk : x.length + 1100 ≤ k) (Φ : Int → List Int → Int → A) : impl_GaloisImage z k n x a Φ = Φ (gal3 n x a).1 (gal3 n x a).2.1 (gal3 n x a).2.2 := by
  obtain ⟨k, rfl, hk⟩ := up (show x.length + 1099 + 1 ≤ k by omega)
  simp only [impl_GaloisImage, step_succ]
  rw [isCyclo_eq z n hx k (by omega)]
  unfold gal3
  cases h : isC n x with
  | false => rfl
  | true =>
    obtain ⟨m, rfl, h1, h2, h3, h4, h5⟩ := isC_x h
    rw [Bool.not_true, cond_false, if_pos rfl, isPrimeTo_eq z h1 (by omega) a k (by omega)]
    by_cases c : (1 ≤ a ∧ a ≤ (m : Int)) ∧ Int.gcd a m = 1
    · rw [decide_eq_true c, Bool.not_true, cond_false, if_pos c, field_eq z h1 h2 k (by omega), image_eq z h1 h2 (by omega) (by omega) k (by omega), cycloOf3_eq z (by rw [imT_len]; omega) _ k (by rw [imT_len]; omega), Int.toNat_natCast]
    · rw [decide_eq_false c, Bool.not_false, cond_true, if_neg c]
theorem specGaloisImage_eq (n : Int) {x : List Int} (hx : x.length ≤ 1000000) (a : Int) (k : Nat) (hk : x.length + 1100 ≤ k) (Φ : Int → List Int → Int → A) : spec_GaloisImage z k n x a Φ = Φ (gal3 n x a).1 (gal3 n x a).2.1 (gal3 n x a).2.2 := by
  obtain ⟨k, rfl, hk⟩ := up (show x.length + 1098 + 1 ≤ k by omega)
  obtain ⟨k, rfl, hk⟩ := up (show x.length + 1097 + 1 ≤ k by omega)
  simp only [spec_GaloisImage, step_succ]
  rw [is01_eq z n hx _ (by omega)]
  unfold gal3
  cases h : isC n x with
  | false => rfl
  | true =>
    obtain ⟨m, rfl, h1, h2, h3, h4, h5⟩ := isC_x h
    rw [Bool.not_true, cond_false, if_pos rfl, in_eq]
    by_cases c : 1 ≤ a ∧ a ≤ (m : Int)
    · rw [decide_eq_true c, Bool.not_true, cond_false, sgcd_eq z (by omega) (by omega) _ (by omega)]
      by_cases g : Int.gcd a m = 1
      · rw [if_neg (by omega), if_pos ⟨c, g⟩, galois_eq z h1 h2 (by omega) (by omega) _ (by omega), told3_eq z (by rw [imT_len]; omega) _ _ (by rw [imT_len]; omega), Int.toNat_natCast]
      · rw [if_pos (by omega), if_neg (fun h => g h.2)]
    · rw [decide_eq_false c, Bool.not_false, cond_true, if_neg (fun h => c h.1)]
theorem conjugate_eq (n : Int) {x : List Int} (hx : x.length ≤ 1000000) (k : Nat) (hk : x.length + 400 ≤ k) (Φ : Int → List Int → Int → A) : impl_ConjugateOf z k n x Φ = Φ (bar3 n x).1 (bar3 n x).2.1 (bar3 n x).2.2 := by
  obtain ⟨k, rfl, hk⟩ := up (show x.length + 399 + 1 ≤ k by omega)
  simp only [impl_ConjugateOf, step_succ]
  rw [isCyclo_eq z n hx k (by omega)]
  unfold bar3
  cases h : isC n x with
  | false => rfl
  | true =>
    obtain ⟨m, rfl, h1, h2, h3, h4, h5⟩ := isC_x h
    rw [Bool.not_true, cond_false, if_pos rfl, field_eq z h1 h2 k (by omega), image_eq z h1 h2 (by omega) (by omega) k (by omega), cycloOf3_eq z (by rw [imT_len]; omega) _ k (by rw [imT_len]; omega), Int.toNat_natCast]
theorem specConjugate_eq (n : Int) {x : List Int} (hx : x.length ≤ 1000000) (k : Nat) (hk : x.length + 400 ≤ k) (Φ : Int → List Int → Int → A) : spec_ConjugateOf z k n x Φ = Φ (bar3 n x).1 (bar3 n x).2.1 (bar3 n x).2.2 := by
  obtain ⟨k, rfl, hk⟩ := up (show x.length + 399 + 1 ≤ k by omega)
  simp only [spec_ConjugateOf, step_succ]
  rw [is01_eq z n hx k (by omega)]
  unfold bar3
  cases h : isC n x with
  | false => rfl
  | true =>
    obtain ⟨m, rfl, h1, h2, h3, h4, h5⟩ := isC_x h
    rw [Bool.not_true, cond_false, if_pos rfl, bar_eq z h1 h2 (by omega) k (by omega), told3_eq z (by rw [imT_len]; omega) _ k (by rw [imT_len]; omega), Int.toNat_natCast]
theorem isReal_eq (n : Int) {x : List Int} (hx : x.length ≤ 1000000) (k : Nat) (hk : x.length + 400 ≤ k) (Φ : Bool → Int → A) : impl_IsReal z k n x Φ = Φ (real2 n x).1 (real2 n x).2 := by
  obtain ⟨k, rfl, hk⟩ := up (show x.length + 399 + 1 ≤ k by omega)
  simp only [impl_IsReal, step_succ]
  rw [isCyclo_eq z n hx k (by omega)]
  unfold real2
  cases h : isC n x with
  | false => rfl
  | true =>
    obtain ⟨m, rfl, h1, h2, h3, h4, h5⟩ := isC_x h
    rw [Bool.not_true, cond_false, if_pos rfl, field_eq z h1 h2 k (by omega), image_eq z h1 h2 (by omega) (by omega) k (by omega), equal_eq z (by rw [imT_len]; omega) k (by rw [imT_len]; omega), Int.toNat_natCast]
theorem specIsReal_eq (n : Int) {x : List Int} (hx : x.length ≤ 1000000) (k : Nat) (hk : x.length + 400 ≤ k) (Φ : Bool → Int → A) : spec_IsReal z k n x Φ = Φ (real2 n x).1 (real2 n x).2 := by
  obtain ⟨k, rfl, hk⟩ := up (show x.length + 399 + 1 ≤ k by omega)
  simp only [spec_IsReal, step_succ]
  rw [is01_eq z n hx k (by omega)]
  unfold real2
  cases h : isC n x with
  | false => rfl
  | true =>
    obtain ⟨m, rfl, h1, h2, h3, h4, h5⟩ := isC_x h
    rw [Bool.not_true, cond_false, if_pos rfl, bar_eq z h1 h2 (by omega) k (by omega), same_eq z (by rw [imT_len]; omega) _ _ k (by rw [imT_len]; omega), Int.toNat_natCast]
    simp
theorem multiply_eq (m n : Int) {x y : List Int} (hx : x.length ≤ 1000000) (hy : y.length ≤ 1000000) (k : Nat) (hk : x.length + y.length + 400 ≤ k) (Φ : Int → List Int → Int → A) : impl_MultiplyCyclos z k m x n y Φ = Φ (mul3 m x n y).1 (mul3 m x n y).2.1 (mul3 m x n y).2.2 := by
  obtain ⟨k, rfl, hk⟩ := up (show x.length + y.length + 399 + 1 ≤ k by omega)
  simp only [impl_MultiplyCyclos, step_succ]
  rw [twoCode_eq z m n hx hy k (by omega)]
  unfold mul3
  by_cases h : codeC m x n y = 0
  · rw [if_neg (by simpa using h), if_neg (by simpa using h)]
    obtain ⟨c1, c2, rfl⟩ := codeC_zero h
    obtain ⟨j, rfl, h1, h2, h3, h4, h5⟩ := isC_x c1
    obtain ⟨j', e, _, _, g3, g4, g5⟩ := isC_x c2
    have : j = j' := by omega
    subst this
    rw [field_eq z h1 h2 k (by omega), times_eq h1 h2 h5.2 (by omega) (fun q hq => by have := g5.2 q hq; omega) (by omega) z k (by omega), Int.toNat_natCast]
    unfold mulO
    cases ho : okB j x y with
    | false => rfl
    | true =>
      have hb := smallL_tab.1 ho
      have e : (tab (cycD j) fun m => w64 (bil j x y m)) = tab (cycD j) (bil j x y) := tab_congr fun m hm => by have := hb m hm; exact w64_id (by omega) (by omega)
      rw [Bool.not_true, cond_false, e, cycloOf3_eq z (by rw [tab_length]; omega) _ k (by rw [tab_length]; omega), if_pos rfl]
      unfold told3
      rw [if_pos (show smallL (tab (cycD j) (bil j x y)) = true from ho)]
  · rw [if_pos (by simpa using h), if_pos (by simpa using h)]
theorem add_g11 {y : List Int} (hy : y.length ≤ 1000) (v : Int) {K0 : List Int → A} : ∀ (d c k : Nat) (o : List Int), c + d = y.length → y.length ≤ o.length → d + 1 ≤ k →
    impl_AddCyclos.g11 z k v y (y.length : Int) (c : Int) o K0 = K0 (addIn y v 0 d c o)
  | d, c, 0, o, _, _, hk => absurd hk (by omega)
  | 0, c, k + 1, o, hc, ho, hk => by
    rw [impl_AddCyclos.g11, if_neg (by omega)]
    rfl
  | d + 1, c, k + 1, o, hc, ho, hk => by
    rw [impl_AddCyclos.g11, if_pos (by omega), inI_at z (by omega), inI_at z (by omega), inI_at z (by omega), w64_up (by omega), add_g11 hy v d (c + 1) k _ (by omega) (by rw [List.length_set]; exact ho) (by omega)]
    rw [show addIn y v 0 (d + 1) c o = addIn y v 0 d (c + 1) (o.set c (w64 (o.getD c 0 + w64 (v * y.getD c 0)))) by rw [addIn, Nat.zero_add]; rfl]
theorem add_eq (m n : Int) {x y : List Int} (hx : x.length ≤ 1000000) (hy : y.length ≤ 1000000) (v : Int) (k : Nat) (hk : x.length + y.length + 400 ≤ k) (Φ : Int → List Int → Int → A) : impl_AddCyclos z k m x n y v Φ = Φ (add3 m x n y v).1 (add3 m x n y v).2.1 (add3 m x n y v).2.2 := by
  obtain ⟨k, rfl, hk⟩ := up (show x.length + y.length + 399 + 1 ≤ k by omega)
  obtain ⟨k, rfl, hk⟩ := up (show x.length + y.length + 398 + 1 ≤ k by omega)
  simp only [impl_AddCyclos, step_succ]
  rw [twoCode_eq z m n hx hy _ (by omega)]
  unfold add3
  by_cases h : codeC m x n y = 0
  · rw [if_neg (by simpa using h), if_neg (by simpa using h), within_eq]
    by_cases hv : -1000 ≤ v ∧ v ≤ 1000
    · rw [decide_eq_true hv, Bool.not_true, cond_false, if_pos hv]
      obtain ⟨c1, c2, rfl⟩ := codeC_zero h
      obtain ⟨j, rfl, h1, h2, h3, h4, h5⟩ := isC_x c1
      obtain ⟨j', e, _, _, g3, g4, g5⟩ := isC_x c2
      have : j = j' := by omega
      subst this
      rw [clone_eq z (by omega) _ (by omega)]
      refine Eq.trans (add_g11 z (by omega) v y.length 0 (k + 1) x (by omega) (by omega) (by omega)) ?_
      have hl := addIn_length y v 0 y.length 0 x
      rw [cycloOf3_eq z (by rw [hl]; omega) _ _ (by rw [hl]; omega)]
      rfl
    · rw [decide_eq_false hv, Bool.not_false, cond_true, if_neg hv]
  · rw [if_pos (by simpa using h), if_pos (by simpa using h)]
end
end Go.Proofs.Ytdnpkbhapdkikaa.F
/- Facts on the functions of the first layer, whole: lifts, and fields within fields. -/
namespace Go.Proofs.Ytdnpkbhapdkikaa.F
open Go.RowKit Go.Proofs.Ytdnpkbhapdkikaa.R
set_option linter.unusedVariables false
set_option linter.unusedSimpArgs false
def liftT (m s : Nat) (x : List Int) : List Int := tab (cycD m) fun j => w64 (galQ m x (fun i => i * s % m) j)
def lift3 (n : Int) (x : List Int) (m : Int) : Int × List Int × Int := if isC n x = true then (if 1 ≤ m ∧ m ≤ 16 then (if m.toNat % n.toNat = 0 then told3 m (liftT m.toNat (m.toNat / n.toNat) x) else (0, [], 2)) else (0, [], 2)) else (0, [], 1)
def liftIn (s : Nat) (x : List Int) : Nat → Nat → List Int → List Int
  | 0, _, L => L
  | d + 1, i, L => liftIn s x d (i + 1) (L.set (i * s) (rd x i))
theorem liftIn_length (s : Nat) (x : List Int) : ∀ (d i : Nat) (L : List Int), (liftIn s x d i L).length = L.length
  | 0, i, L => rfl
  | d + 1, i, L => by unfold liftIn; rw [liftIn_length s x d, List.length_set]
theorem liftIn_facts {s : Nat} (hs : 1 ≤ s) (x : List Int) (hx : ∀ q : Nat, q < x.length → (rd x q).natAbs ≤ 1000000000) : ∀ (d i : Nat) (L : List Int), i + d = x.length → x.length * s ≤ L.length → (∀ j, i ≤ j → j < x.length → rd L (j * s : Nat) = 0) → Wrapped L →
    Wrapped (liftIn s x d i L) ∧ ∀ w : Nat → Int, dot (liftIn s x d i L) w = dot L w + sumF i d (fun p => rd x p * w (p * s))
  | 0, i, L, hi, hl, hz, hw => ⟨hw, fun w => by simp [liftIn, sumF]⟩
  | d + 1, i, L, hi, hl, hz, hw => by
    have hq : i * s < L.length := Nat.lt_of_lt_of_le (Nat.mul_lt_mul_of_pos_right (show i < x.length by omega) hs) hl
    have hxi := hx i (by omega)
    have hv : rd x i = wrap64 (rd x i) := (wrap_id (by omega) (by omega)).symm
    obtain ⟨g1, g2⟩ := liftIn_facts hs x hx d (i + 1) (L.set (i * s) (rd x i)) (by omega) (by rw [List.length_set]; exact hl) (fun j h1 h2 => by
      rw [rd_set _ _ _ _ (Nat.lt_of_lt_of_le (Nat.mul_lt_mul_of_pos_right h2 hs) hl), if_neg (fun e => by have := Nat.eq_of_mul_eq_mul_right hs e; omega)]
      exact hz j (by omega) h2) (by rw [hv]; exact hw.set _ _)
    refine ⟨g1, fun w => ?_⟩
    show dot (liftIn s x d (i + 1) (L.set (i * s) (rd x i))) w = _
    rw [g2 w, dot_set _ _ _ _ hq, hz i (Nat.le_refl _) (by omega), sumF, Int.sub_zero, Int.add_assoc]
section
variable {A : Type} (z : A)
theorem with136_in {row : List Int} (hr : row.length ≤ 1000) (v : Int) {K0 : List Int → A} : ∀ (d c k : Nat) (o : List Int), c + d = row.length → o.length = row.length → d + 1 ≤ k →
    impl_field_with_c136.g10 z k v row (row.length : Int) (c : Int) o K0 = K0 (addIn row v 0 d c o)
  | d, c, 0, o, _, _, hk => absurd hk (by omega)
  | 0, c, k + 1, o, hc, ho, hk => by
    rw [impl_field_with_c136.g10, if_neg (by omega)]
    rfl
  | d + 1, c, k + 1, o, hc, ho, hk => by
    rw [impl_field_with_c136.g10, if_pos (by omega), inI_at z (by omega), inI_at z (by omega), inI_at z (by omega), w64_up (by omega), with136_in hr v d (c + 1) k _ (by omega) (by rw [List.length_set]; exact ho) (by omega)]
    rw [show addIn row v 0 (d + 1) c o = addIn row v 0 d (c + 1) (o.set c (w64 (o.getD c 0 + w64 (v * row.getD c 0)))) by rw [addIn, Nat.zero_add]; rfl]
theorem with136_g {n : Nat} (h1 : 1 ≤ n) (h2 : n ≤ 16) {x : List Int} (hx : x.length ≤ 100) {m0 n0 : Int} {l0 : List Int} {q : Nat → Nat}
    (hq : ∀ i : Nat, i < x.length → q i < n ∧ ∀ k (K0 : Int → A), (impl_LiftCyclo_1 z (k + 1) (i : Int) m0 n0 l0 fun v3 => impl_around z (k + 1) v3 (n : Int) K0) = K0 (q i : Int)) {K0 : List Int → A} : ∀ (d i k : Nat) (o : List Int), i + d = x.length → o.length = cycD n → d + 20 ≤ k →
    impl_field_with_c136.g4 z k (n : Int) (cycP n) m0 n0 l0 x (x.length : Int) (i : Int) o K0 = K0 (imIn n x q d i o)
  | d, i, 0, o, _, _, hk => absurd hk (by omega)
  | 0, i, k + 1, o, hi, ho, hk => by
    rw [impl_field_with_c136.g4, if_neg (by omega)]
    rfl
  | d + 1, i, k + 1, o, hi, ho, hk => by
    obtain ⟨q1, q2⟩ := hq i (by omega)
    have C := cyc_facts h1 h2
    obtain ⟨r1, r2, r3⟩ := cycRow_facts C h1 q1
    have := C.le12
    obtain ⟨j, rfl, hj⟩ := up (show d + 19 + 1 ≤ k by omega)
    rw [impl_field_with_c136.g4, if_pos (by omega), inI_at z (by omega), q2, inI_at z (by rw [C.lenP]; omega), w64_up (by omega)]
    refine Eq.trans (with136_in z (row := cycRow n (q i)) (by omega) _ (cycRow n (q i)).length 0 (j + 1) o (by omega) (by omega) (by omega)) ?_
    rw [r1]
    have hl := (addIn_length (cycRow n (q i)) (rd x i) 0 (cycD n) 0 o).trans ho
    exact with136_g h1 h2 hx hq d (i + 1) (j + 1) _ (by omega) hl (by omega)
theorem lift_mod {m n : Nat} (h1 : 1 ≤ n) (hm : m ≤ 16) (hd : m % n = 0) {i : Nat} (hi : i < n) : i * (m / n) ≤ m ∧ (1 ≤ m → 1 ≤ m / n) := by
  have e := Nat.div_add_mod m n
  rw [hd, Nat.add_zero] at e
  refine ⟨?_, fun h => ?_⟩
  · have := Nat.mul_le_mul_right (m / n) (Nat.le_of_lt hi)
    omega
  · rcases Nat.eq_zero_or_pos (m / n) with h0 | h0
    · rw [h0] at e; omega
    · exact h0
theorem tdiv_nat (m n : Nat) : Int.tdiv (m : Int) (n : Int) = ((m / n : Nat) : Int) := by rw [Int.tdiv_eq_ediv_of_nonneg (by omega)]; rfl
theorem tmod_nat (m n : Nat) : Int.tmod (m : Int) (n : Int) = ((m % n : Nat) : Int) := by rw [Int.tmod_eq_emod_of_nonneg (by omega)]; rfl
theorem lift_eq (n : Int) {x : List Int} (hx : x.length ≤ 1000000) (m : Int) (k : Nat) (hk : x.length + 400 ≤ k) (Φ : Int → List Int → Int → A) : impl_LiftCyclo z k n x m Φ = Φ (lift3 n x m).1 (lift3 n x m).2.1 (lift3 n x m).2.2 := by
  obtain ⟨k, rfl⟩ := le_ex (show 3 ≤ k by omega)
  simp only [impl_LiftCyclo, step_succ]
  rw [isCyclo_eq z n hx _ (by omega)]
  unfold lift3
  cases h : isC n x with
  | false => rfl
  | true =>
    obtain ⟨n, rfl, h1, h2, h3, h4, h5⟩ := isC_x h
    have hD := (cyc_facts h1 h2).leN
    rw [Bool.not_true, cond_false, if_pos rfl, isOrder_eq]
    by_cases c : 1 ≤ m ∧ m ≤ 16
    · obtain ⟨m, rfl⟩ : ∃ j : Nat, m = j := ⟨m.toNat, by omega⟩
      rw [decide_eq_true c, Bool.not_true, cond_false, if_pos c, gd_ok z (by omega), tmod_nat, Int.toNat_natCast, Int.toNat_natCast]
      by_cases d : m % n = 0
      · rw [if_neg (by omega), if_pos d, field_eq z (by omega) (by omega) _ (by omega)]
        have := le12 (n := m) (by omega) (by omega)
        simp only [impl_field_with_c136, step_succ]
        rw [mkI_at z (by omega)]
        refine Eq.trans (with136_g z (n := m) (by omega) (by omega) (by omega) (q := fun i => i * (m / n) % m) (fun i hi => ⟨Nat.mod_lt _ (by omega), fun k K0 => ?_⟩) x.length 0 (k + 1) _ (by omega) (by simp) (by omega)) ?_
        · obtain ⟨b1, b2⟩ := lift_mod h1 (m := m) (by omega) d (i := i) (by omega)
          simp only [impl_LiftCyclo_1, step_succ]
          rw [gd_ok z (by omega), tdiv_nat, w64_id (x := ((m / n : Nat) : Int)) (by omega) (by have := Nat.div_le_self m n; omega), ← Int.natCast_mul, w64_id (by omega) (by omega), around_eq z _ (by omega) (by omega), ← Int.natCast_emod]
        · rw [imIn_tab (cyc_facts (by omega) (by omega)) (by omega) x _ fun j hj => Nat.mod_lt _ (by omega)]
          exact cycloOf3_eq z (by rw [tab_length]; omega) _ _ (by rw [tab_length]; omega) Φ
      · rw [if_pos (by omega), if_neg d]
    · rw [decide_eq_false c, Bool.not_false, cond_true, if_neg c]
theorem slift_g {s n : Nat} (hn : n ≤ 16) (hs : s ≤ 16) {x : List Int} (hx : x.length ≤ 100) {K0 : List Int → A} : ∀ (d i k : Nat) (L : List Int), i + d = x.length → L.length = n → (∀ j, j < x.length → j * s < n) → d + 1 ≤ k →
    spec_l01Lift.g4 z k (s : Int) (i : Int) x L K0 = K0 (liftIn s x d i L)
  | d, i, 0, L, _, _, _, hk => absurd hk (by omega)
  | 0, i, k + 1, L, hi, hL, hj, hk => by
    rw [spec_l01Lift.g4, if_neg (by omega)]
    rfl
  | d + 1, i, k + 1, L, hi, hL, hj, hk => by
    have := hj i (by omega)
    rw [spec_l01Lift.g4, if_pos (by omega), inI_at z (by omega), ← Int.natCast_mul, w64_id (by omega) (by omega), inI_at z (by omega), w64_up (by omega), slift_g hn hs hx d (i + 1) k _ (by omega) (by rw [List.length_set]; exact hL) hj (by omega)]
    rfl
theorem slift_eq {n m : Nat} (h1 : 1 ≤ n) (h2 : n ≤ 16) (m1 : 1 ≤ m) (m2 : m ≤ 16) (hd : m % n = 0) {x : List Int} (hx : x.length ≤ n) (hg : ∀ q : Nat, q < x.length → (rd x q).natAbs ≤ 1000000000) (k : Nat) (hk : 300 ≤ k) (Φ : Int → List Int → A) :
    spec_l01Lift z k (n : Int) x (m : Int) Φ = Φ m (liftT m (m / n) x) := by
  obtain ⟨k, rfl, hk⟩ := up (K := 299) hk
  have hs := (lift_mod h1 m2 hd (i := 0) (by omega)).2 m1
  have e := Nat.div_add_mod m n
  rw [hd, Nat.add_zero] at e
  have hle := Nat.div_le_self m n
  have hj : ∀ j, j < x.length → j * (m / n) < m := fun j hj => by
    have := Nat.mul_lt_mul_of_pos_right (show j < n by omega) hs
    omega
  simp only [spec_l01Lift, step_succ]
  rw [mkI_at z (by omega), gd_ok z (by omega), tdiv_nat, w64_id (by omega) (by omega)]
  refine Eq.trans (slift_g z m2 (by omega) (by omega) x.length 0 k _ (by omega) (by simp) hj (by omega)) ?_
  obtain ⟨g1, g2⟩ := liftIn_facts hs x hg x.length 0 (List.replicate m 0) (by omega) (by rw [List.length_replicate]; have := Nat.mul_le_mul_right (m / n) hx; omega) (fun j _ hj' => by
    have := hj j hj'
    rw [rd_nat _ _ (by simpa using this), List.getElem_replicate]) (wrapped_zeros m)
  have hl := liftIn_length (m / n) x x.length 0 (List.replicate m 0)
  rw [List.length_replicate] at hl
  rw [reduce_eq z m1 m2 (by omega) g1 k (by omega)]
  congr 1
  exact tab_congr fun j hj => by
    rw [g2, dot_zeros, Int.zero_add]
    unfold galQ
    congr 1
    exact sumF_congr _ _ fun i _ _ => by rw [cycW_mod]
theorem specLift_eq (n : Int) {x : List Int} (hx : x.length ≤ 1000000) (m : Int) (k : Nat) (hk : x.length + 400 ≤ k) (Φ : Int → List Int → Int → A) : spec_LiftCyclo z k n x m Φ = Φ (lift3 n x m).1 (lift3 n x m).2.1 (lift3 n x m).2.2 := by
  obtain ⟨k, rfl⟩ := le_ex (show 3 ≤ k by omega)
  simp only [spec_LiftCyclo, step_succ]
  rw [is01_eq z n hx _ (by omega)]
  unfold lift3
  cases h : isC n x with
  | false => rfl
  | true =>
    obtain ⟨n, rfl, h1, h2, h3, h4, h5⟩ := isC_x h
    have hD := (cyc_facts h1 h2).leN
    rw [Bool.not_true, cond_false, if_pos rfl, in_eq]
    by_cases c : 1 ≤ m ∧ m ≤ 16
    · obtain ⟨m, rfl⟩ : ∃ j : Nat, m = j := ⟨m.toNat, by omega⟩
      have := le12 (n := m) (by omega) (by omega)
      rw [decide_eq_true c, Bool.not_true, cond_false, if_pos c, gd_ok z (by omega), tmod_nat, Int.toNat_natCast, Int.toNat_natCast]
      by_cases d : m % n = 0
      · have hl : (liftT m (m / n) x).length = cycD m := tab_length _ _
        rw [if_neg (by omega), if_pos d, slift_eq z h1 h2 (by omega) (by omega) d (by omega) (fun q hq => by have := h5.2 q hq; omega) _ (by omega), told3_eq z (by rw [hl]; omega) _ _ (by rw [hl]; omega)]
      · rw [if_pos (by omega), if_neg d]
    · rw [decide_eq_false c, Bool.not_false, cond_true, if_neg c]
end
end Go.Proofs.Ytdnpkbhapdkikaa.F
/- Facts on the functions of the first layer, whole: what lies in a field. -/
namespace Go.Proofs.Ytdnpkbhapdkikaa.F
open Go.RowKit Go.Proofs.Ytdnpkbhapdkikaa.R
set_option linter.unusedVariables false
set_option linter.unusedSimpArgs false
def allF (n m : Nat) (x : List Int) : Nat → Nat → Bool
  | 0, _ => true
  | d + 1, a => if (a - 1) % m = 0 ∧ Nat.gcd a n = 1 then (if imT n x (a : Int) = x then allF n m x d (a + 1) else false) else allF n m x d (a + 1)
def inF (n : Int) (x : List Int) (m : Int) : Bool × Int := if isC n x = true then (if 1 ≤ m ∧ n.toNat % m.toNat = 0 then (allF n.toNat m.toNat x n.toNat 1, 0) else (false, 2)) else (false, 1)
theorem one_mod {a m : Nat} (ha : 1 ≤ a) : (a - 1) % m = 0 ↔ a % m = 1 % m := by
  obtain ⟨b, rfl⟩ : ∃ b, a = b + 1 := ⟨a - 1, by omega⟩
  rw [Nat.add_sub_cancel]
  constructor
  · intro h; rw [Nat.add_mod, h, Nat.zero_add, Nat.mod_mod]
  · intro h
    have h1 : ((b + 1) - 1) % m = 0 := Nat.sub_mod_eq_zero_of_mod_eq h
    simpa using h1
section
variable {A : Type} (z : A)
theorem isIn_g {n m : Nat} (h1 : 1 ≤ n) (h2 : n ≤ 16) (m1 : 1 ≤ m) {x : List Int} (hx : x.length ≤ 100) {K0 : Bool → Int → A} {K1 : A} : ∀ (d a k : Nat), a + d = n + 1 → 1 ≤ a → d + 1100 ≤ k →
    impl_IsInField.g9 z k (m : Int) (a : Int) (n : Int) x (n : Int) (cycD n : Int) (cycP n) K0 K1 = bif allF n m x d a then K1 else K0 false 0
  | d, a, 0, _, _, hk => absurd hk (by omega)
  | 0, a, k + 1, ha, _, hk => by
    rw [impl_IsInField.g9, if_neg (by omega)]
    rfl
  | d + 1, a, k + 1, ha, ha1, hk => by
    have hD := le12 h1 h2
    have ih := isIn_g h1 h2 m1 hx (K0 := K0) (K1 := K1) d (a + 1) k (by omega) (by omega) (by omega)
    rw [impl_IsInField.g9, if_pos (by omega), isPrimeTo_eq z h1 (by omega) _ k (by omega)]
    have e : ((1 ≤ (a : Int) ∧ (a : Int) ≤ n) ∧ Int.gcd a n = 1) ↔ Nat.gcd a n = 1 := by
      constructor
      · intro h; exact h.2
      · intro h; exact ⟨⟨by omega, by omega⟩, h⟩
    rw [w64_up (by omega), ih, allF]
    by_cases g : Nat.gcd a n = 1
    · rw [decide_eq_true (e.2 g), cond_true, gd_ok z (by omega), show w64 ((a : Int) - 1) = ((a - 1 : Nat) : Int) by rw [w64_id (by omega) (by omega)]; omega, tmod_nat]
      by_cases c : (a - 1) % m = 0
      · rw [if_pos (by omega), if_pos ⟨c, g⟩, image_eq z h1 h2 hx (by omega) k (by omega), equal_eq z (by rw [imT_len]; omega) k (by rw [imT_len]; omega)]
        by_cases f : imT n x (a : Int) = x
        · rw [decide_eq_true f, if_pos f]; rfl
        · rw [decide_eq_false f, if_neg f]; rfl
      · rw [if_neg (by omega), if_neg (fun h => c h.1)]
    · rw [decide_eq_false (fun h => g (e.1 h)), cond_false, if_neg (fun h => g h.2)]
theorem isInField_eq (n : Int) {x : List Int} (hx : x.length ≤ 1000000) (m : Int) (k : Nat) (hk : x.length + 1200 ≤ k) (Φ : Bool → Int → A) : impl_IsInField z k n x m Φ = Φ (inF n x m).1 (inF n x m).2 := by
  obtain ⟨k, rfl, hk⟩ := up (show x.length + 1199 + 1 ≤ k by omega)
  simp only [impl_IsInField, step_succ]
  rw [isCyclo_eq z n hx k (by omega)]
  unfold inF
  cases h : isC n x with
  | false => rfl
  | true =>
    obtain ⟨n, rfl, h1, h2, h3, h4, h5⟩ := isC_x h
    rw [Bool.not_true, cond_false, if_pos rfl, Int.toNat_natCast]
    by_cases c : m < 1
    · rw [if_pos c, if_neg (fun h => by omega)]
    · obtain ⟨m, rfl⟩ : ∃ j : Nat, m = j := ⟨m.toNat, by omega⟩
      rw [if_neg c, gd_ok z (by omega), tmod_nat, Int.toNat_natCast]
      by_cases d : n % m = 0
      · rw [if_neg (by omega), if_pos ⟨by omega, d⟩, field_eq z h1 h2 k (by omega)]
        refine Eq.trans (isIn_g z h1 h2 (by omega) (by omega) n 1 k (by omega) (by omega) (by omega)) ?_
        cases allF n m x n 1 <;> rfl
      · rw [if_pos (by omega), if_neg (fun h => d h.2)]
theorem specIsIn_g {n m : Nat} (h1 : 1 ≤ n) (h2 : n ≤ 16) (m1 : 1 ≤ m) {x : List Int} (hx : x.length ≤ 100) {K0 : Bool → Int → A} {K1 : A} : ∀ (d a k : Nat), a + d = n + 1 → 1 ≤ a → d + 1100 ≤ k →
    spec_IsInField.g8 z k (m : Int) (a : Int) (n : Int) x K0 K1 = bif allF n m x d a then K1 else K0 false 0
  | d, a, 0, _, _, hk => absurd hk (by omega)
  | 0, a, k + 1, ha, _, hk => by
    rw [spec_IsInField.g8, if_neg (by omega)]
    rfl
  | d + 1, a, k + 1, ha, ha1, hk => by
    have hD := le12 h1 h2
    have ih := specIsIn_g h1 h2 m1 hx (K0 := K0) (K1 := K1) d (a + 1) k (by omega) (by omega) (by omega)
    rw [spec_IsInField.g8, if_pos (by omega), gd_ok z (by omega), gd_ok z (by omega), w64_up (by omega), ih, allF, tmod_nat, show (1 : Int) = ((1 : Nat) : Int) from rfl, tmod_nat]
    have o := one_mod (m := m) ha1
    by_cases c : (a - 1) % m = 0
    · have := o.1 c
      rw [if_pos (by omega), sgcd_eq z (by omega) (by omega) k (by omega)]
      by_cases g : Nat.gcd a n = 1
      · have g' : Int.gcd (a : Int) (n : Int) = 1 := g
        rw [if_pos (by omega), if_pos ⟨c, g⟩, galois_eq z h1 h2 hx (by omega) k (by omega), same_eq z (by rw [imT_len]; omega) _ _ k (by rw [imT_len]; omega)]
        by_cases f : imT n x (a : Int) = x
        · rw [decide_eq_true ⟨rfl, f⟩, if_pos f]; rfl
        · rw [decide_eq_false (fun h => f h.2), if_neg f]; rfl
      · have g' : ¬ Int.gcd (a : Int) (n : Int) = 1 := g
        rw [if_neg (by omega), if_neg (fun h => g h.2)]
    · have : ¬ a % m = 1 % m := fun h => c (o.2 h)
      rw [if_neg (by omega), if_neg (fun h => c h.1)]
theorem specIsInField_eq (n : Int) {x : List Int} (hx : x.length ≤ 1000000) (m : Int) (k : Nat) (hk : x.length + 1200 ≤ k) (Φ : Bool → Int → A) : spec_IsInField z k n x m Φ = Φ (inF n x m).1 (inF n x m).2 := by
  obtain ⟨k, rfl⟩ := le_ex (show 3 ≤ k by omega)
  simp only [spec_IsInField, step_succ]
  rw [is01_eq z n hx _ (by omega)]
  unfold inF
  cases h : isC n x with
  | false => rfl
  | true =>
    obtain ⟨n, rfl, h1, h2, h3, h4, h5⟩ := isC_x h
    rw [Bool.not_true, cond_false, if_pos rfl, in_eq, Int.toNat_natCast]
    by_cases c : 1 ≤ m ∧ m ≤ (n : Int)
    · obtain ⟨m, rfl⟩ : ∃ j : Nat, m = j := ⟨m.toNat, by omega⟩
      rw [decide_eq_true c, Bool.not_true, cond_false, gd_ok z (by omega), tmod_nat, Int.toNat_natCast]
      by_cases d : n % m = 0
      · rw [if_neg (by omega), if_pos ⟨by omega, d⟩]
        refine Eq.trans (specIsIn_g z h1 h2 (by omega) (by omega) n 1 _ (by omega) (by omega) (by omega)) ?_
        cases allF n m x n 1 <;> rfl
      · rw [if_pos (by omega), if_neg (fun h => d h.2)]
    · rw [decide_eq_false c, Bool.not_false, cond_true, if_neg (fun h => ?_)]
      obtain ⟨m, rfl⟩ : ∃ j : Nat, m = j := ⟨m.toNat, by omega⟩
      rw [Int.toNat_natCast, Nat.mod_eq_of_lt (by omega)] at h
      omega
end
end Go.Proofs.Ytdnpkbhapdkikaa.F
/- Facts on the functions of the first layer, whole: what is drawn. -/
namespace Go.Proofs.Ytdnpkbhapdkikaa.F
open Go.RowKit Go.Proofs.Ytdnpkbhapdkikaa.R
set_option linter.unusedVariables false
set_option linter.unusedSimpArgs false
def Src (c : List Int) (i : Int) : Prop := c.length ≤ 4096 ∧ (∀ x ∈ c, 0 ≤ x ∧ x ≤ 255) ∧ 0 ≤ i ∧ i ≤ (c.length : Int)
theorem mask_bd (y : Int) : 0 ≤ wu64 ((BitVec.ofInt 64 y &&& BitVec.ofInt 64 1073741823).toNat : Int) ∧ wu64 ((BitVec.ofInt 64 y &&& BitVec.ofInt 64 1073741823).toNat : Int) ≤ 1073741823 := by
  have h : (BitVec.ofInt 64 y &&& BitVec.ofInt 64 1073741823).toNat ≤ 1073741823 := by
    rw [BitVec.toNat_and]
    exact Nat.le_trans Nat.and_le_right (by decide)
  generalize (BitVec.ofInt 64 y &&& BitVec.ofInt 64 1073741823).toNat = q at h
  rw [show wu64 (q : Int) = q by unfold wu64 wr; simp only; omega]
  omega
def stir (h : Int) : Int := wu64 (wu64 (h * 6364136223846793005) + 1442695040888963407)
def pull (h : Int) : Int := wu64 ((BitVec.ofInt 64 ((stir h).fdiv (2 ^ (31))) &&& BitVec.ofInt 64 1073741823).toNat : Int)
section
variable {A : Type} (z : A)
theorem next_eq {c : List Int} {i : Int} (hs : Src c i) (h n : Int) : ∃ i' h' v, (Src c i' ∧ 0 ≤ v ∧ (1 ≤ n → v < n) ∧ (n < 1 → v = 0)) ∧ ∀ k, 1 ≤ k → ∀ Φ : List Int → Int → Int → Int → A, spec_l01Next z k c i h n Φ = Φ c i' h' v := by
  obtain ⟨hc, hb, h0, h1⟩ := hs
  by_cases e : n < 1
  · refine ⟨i, h, 0, ⟨⟨hc, hb, h0, h1⟩, Int.le_refl _, by omega, fun _ => rfl⟩, fun k hk Φ => ?_⟩
    obtain ⟨k, rfl⟩ := le_ex hk
    simp only [spec_l01Next, step_succ]
    rw [if_pos e]
  · obtain ⟨m0, m1⟩ := mask_bd ((stir h).fdiv (2 ^ (31)))
    have m0 : 0 ≤ pull h := m0
    have m1 : pull h ≤ 1073741823 := m1
    by_cases e2 : i < (c.length : Int)
    · obtain ⟨i, rfl⟩ := Int.eq_ofNat_of_zero_le h0
      have hi : i < c.length := by omega
      have hr : 0 ≤ c.getD i 0 ∧ c.getD i 0 ≤ 255 := by rw [getD_at hi]; exact hb _ (List.getElem_mem hi)
      refine ⟨((i + 1 : Nat) : Int), stir h, (w64 (w64 (pull h) + w64 (c.getD i 0))).tmod n, ⟨⟨hc, hb, by omega, by omega⟩, ?_, fun hn => Int.tmod_lt_of_pos _ (by omega), fun hn => absurd hn e⟩, fun k hk Φ => ?_⟩
      · refine Int.tmod_nonneg _ ?_
        rw [w64_id (x := pull h) (by omega) (by omega), w64_id (x := c.getD i 0) (by omega) (by omega), w64_id (by omega) (by omega)]
        omega
      · obtain ⟨k, rfl⟩ := le_ex hk
        simp only [spec_l01Next, step_succ]
        rw [if_neg e, if_pos e2, inI_at z hi, gd_ok z (by omega), w64_up (by omega)]
        rfl
    · refine ⟨i, stir h, (w64 (pull h)).tmod n, ⟨⟨hc, hb, h0, h1⟩, ?_, fun hn => Int.tmod_lt_of_pos _ (by omega), fun hn => absurd hn e⟩, fun k hk Φ => ?_⟩
      · refine Int.tmod_nonneg _ ?_
        rw [w64_id (by omega) (by omega)]
        omega
      · obtain ⟨k, rfl⟩ := le_ex hk
        simp only [spec_l01Next, step_succ]
        rw [if_neg e, if_neg e2, gd_ok z (by omega)]
        rfl
theorem pick_eq {c : List Int} {i : Int} (hs : Src c i) (h : Int) (l : List Int) (hl : l ≠ []) : ∃ i' h' v, (Src c i' ∧ v ∈ l) ∧ ∀ k, 2 ≤ k → ∀ Φ : List Int → Int → Int → Int → A, spec_l01Pick z k c i h l Φ = Φ c i' h' v := by
  have hp : 0 < l.length := List.length_pos_iff.2 hl
  obtain ⟨i', h', v, ⟨s, v0, v1, _⟩, e⟩ := next_eq z hs h (l.length : Int)
  have v2 := v1 (by omega)
  obtain ⟨j, rfl⟩ := Int.eq_ofNat_of_zero_le v0
  have hj : j < l.length := by omega
  refine ⟨i', h', l.getD j 0, ⟨s, by rw [getD_at hj]; exact List.getElem_mem _⟩, fun k hk Φ => ?_⟩
  obtain ⟨k, rfl⟩ := le_ex hk
  simp only [spec_l01Pick, step_succ]
  rw [e _ (by omega), inI_at z hj]
theorem from_g {c : List Int} (hc : c.length ≤ 4096) : ∀ (d i : Nat) (h : Int), i + d = c.length → ∃ h', ∀ k, d + 1 ≤ k → ∀ K0 : Int → A, spec_l01From.g4 z k c (i : Int) h K0 = K0 h'
  | 0, i, h, hi => ⟨h, fun k hk K0 => by
    obtain ⟨k, rfl⟩ := le_ex hk
    rw [spec_l01From.g4, if_neg (by omega)]⟩
  | d + 1, i, h, hi => by
    obtain ⟨h', e⟩ := from_g hc d (i + 1) (wu64 ((wu64 ((wu64 (h * 1099511628211)) + (wu64 (c.getD i 0)))) + 131)) (by omega)
    refine ⟨h', fun k hk K0 => ?_⟩
    obtain ⟨k, rfl, hk⟩ := up hk
    rw [spec_l01From.g4, if_pos (by omega), if_pos (by omega), inI_at z (by omega), w64_up (by omega), e k (by omega)]
theorem from_eq {c : List Int} (hc : c.length ≤ 4096) (hb : ∀ x ∈ c, 0 ≤ x ∧ x ≤ 255) : ∃ h i, Src c i ∧ ∀ k, 4098 ≤ k → ∀ Φ : List Int → Int → Int → A, spec_l01From z k c Φ = Φ c i h := by
  obtain ⟨h, e⟩ := from_g z hc c.length 0 (wu64 (13131 + (wu64 (c.length : Int)))) (by omega)
  refine ⟨h, 0, ⟨hc, hb, by omega, by omega⟩, fun k hk Φ => ?_⟩
  obtain ⟨k, rfl⟩ := le_ex (show 1 ≤ k by omega)
  simp only [spec_l01From, step_succ]
  exact e _ (by omega) _
theorem drawOrder_eq {c : List Int} {i : Int} (hs : Src c i) (h : Int) : ∃ i' h' v, (Src c i' ∧ 1 ≤ v ∧ v ≤ 16) ∧ ∀ k, 3 ≤ k → ∀ Φ : List Int → Int → Int → Int → A, spec_l01DrawOrder z k c i h Φ = Φ c i' h' v := by
  obtain ⟨i1, h1, v1, ⟨s1, v0, v2, _⟩, e1⟩ := next_eq z hs h 16
  have v2 := v2 (by omega)
  obtain ⟨i2, h2, v, ⟨s2, hv⟩, e2⟩ := pick_eq z s1 h1 [1, 2, 3, 3, 4, 4, 5, 5, 6, 7, 8, 9, 10, 12, (w64 (1 + v1))] (by simp)
  rw [w64_id (by omega) (by omega)] at hv e2
  refine ⟨i2, h2, v, ⟨s2, ?_⟩, fun k hk Φ => ?_⟩
  · simp only [List.mem_cons, List.not_mem_nil, or_false] at hv
    omega
  · obtain ⟨k, rfl⟩ := le_ex hk
    simp only [spec_l01DrawOrder, step_succ]
    rw [e1 _ (by omega), w64_id (by omega) (by omega), e2 _ (by omega)]
theorem drawPart_eq {c : List Int} {i : Int} (hs : Src c i) (h : Int) {p : Int} (hp : 0 ≤ p ∧ p ≤ 1000000000) : ∃ i' h' v, (Src c i' ∧ -p ≤ v ∧ v ≤ p) ∧ ∀ k, 2 ≤ k → ∀ Φ : List Int → Int → Int → Int → A, spec_l01DrawPart z k c i h p Φ = Φ c i' h' v := by
  obtain ⟨i1, h1, v1, ⟨s1, v0, v2, _⟩, e1⟩ := next_eq z hs h (2 * p + 1)
  have v2 := v2 (by omega)
  refine ⟨i1, h1, v1 - p, ⟨s1, by omega, by omega⟩, fun k hk Φ => ?_⟩
  obtain ⟨k, rfl⟩ := le_ex hk
  simp only [spec_l01DrawPart, step_succ]
  rw [w64_id (x := 2 * p) (by omega) (by omega), w64_id (x := 2 * p + 1) (by omega) (by omega), e1 _ (by omega), w64_id (by omega) (by omega)]
theorem within_set {B : Int} {o : List Int} (h : within B o) (j : Nat) {v : Int} (hv : -B ≤ v ∧ v ≤ B) : within B (o.set j v) := by
  intro q hq
  rw [List.length_set] at hq
  rw [rd_set _ _ _ _ hq]
  split
  · exact hv
  · exact h q hq
theorem drawOf_g {c : List Int} {p : Int} (hp : 0 ≤ p ∧ p ≤ 1000000000) : ∀ (d j : Nat) (i h : Int) (o : List Int), Src c i → o.length ≤ 1000 → j + d = o.length → within p o →
    ∃ i' h' o', (Src c i' ∧ o'.length = o.length ∧ within p o') ∧ ∀ k, d + 3 ≤ k → ∀ K0 : List Int → Int → Int → List Int → A, spec_l01DrawOf.g4 z k p (j : Int) c i h o K0 = K0 c i' h' o'
  | 0, j, i, h, o, hs, ho, hj, hw => ⟨i, h, o, ⟨hs, rfl, hw⟩, fun k hk K0 => by
    obtain ⟨k, rfl, hk⟩ := up hk
    rw [spec_l01DrawOf.g4, if_neg (by omega)]⟩
  | d + 1, j, i, h, o, hs, ho, hj, hw => by
    obtain ⟨i1, h1, v, ⟨s1, v1, v2⟩, e1⟩ := drawPart_eq z hs h hp
    obtain ⟨i2, h2, u, ⟨s2, hu⟩, e2⟩ := pick_eq z s1 h1 [0, 1, 1] (by simp)
    have hu : u = 0 ∨ u = 1 := by
      simp only [List.mem_cons, List.not_mem_nil, or_false] at hu
      omega
    have hvu : -p ≤ v * u ∧ v * u ≤ p := by
      rcases hu with rfl | rfl
      · rw [Int.mul_zero]; omega
      · rw [Int.mul_one]; omega
    obtain ⟨i3, h3, o', ⟨s3, l3, w3⟩, e3⟩ := drawOf_g hp d (j + 1) i2 h2 (o.set j (v * u)) s2 (by rw [List.length_set]; exact ho) (by rw [List.length_set]; omega) (within_set hw j hvu)
    refine ⟨i3, h3, o', ⟨s3, by rw [l3, List.length_set], w3⟩, fun k hk K0 => ?_⟩
    obtain ⟨k, rfl, hk⟩ := up hk
    rw [spec_l01DrawOf.g4, if_pos (by omega), e1 k (by omega), e2 k (by omega), inI_at z (by omega), w64_up (by omega), w64_id (by omega) (by omega), e3 k (by omega)]
theorem drawOf_eq {c : List Int} {i : Int} (hs : Src c i) (h : Int) {n p : Int} (hn : 1 ≤ n ∧ n ≤ 16) (hp : 0 ≤ p ∧ p ≤ 1000000000) : ∃ i' h' o, (Src c i' ∧ o.length = cycD n.toNat ∧ within p o) ∧ ∀ k, 100 ≤ k → ∀ Φ : List Int → Int → Int → Int → List Int → A, spec_l01DrawOf z k c i h n p Φ = Φ c i' h' n o := by
  obtain ⟨n, rfl⟩ : ∃ j : Nat, n = j := ⟨n.toNat, by omega⟩
  have := le12 (n := n) (by omega) (by omega)
  obtain ⟨i3, h3, o', ⟨s3, l3, w3⟩, e3⟩ := drawOf_g z hp (cycD n) 0 i h (List.replicate (cycD n) 0) hs (by rw [List.length_replicate]; omega) (by rw [List.length_replicate]; omega) (fun q hq => by
    rw [rd_nat _ _ hq, List.getElem_replicate]; omega)
  refine ⟨i3, h3, o', ⟨s3, by rw [l3, List.length_replicate, Int.toNat_natCast], w3⟩, fun k hk Φ => ?_⟩
  obtain ⟨k, rfl⟩ := le_ex (show 1 ≤ k by omega)
  simp only [spec_l01DrawOf, step_succ]
  rw [zero01_eq z (by omega) (by omega) k (by omega)]
  exact e3 _ (by omega) _
theorem bad_eq {c : List Int} {i : Int} (hs : Src c i) (h n : Int) {x : List Int} (h1 : 1 ≤ x.length) (h2 : x.length ≤ 1000) : ∃ i' h' n' x', (Src c i' ∧ x'.length ≤ x.length + 1) ∧ ∀ k, 4 ≤ k → ∀ Φ : List Int → Int → Int → Int → List Int → A, spec_l01Bad z k c i h n x Φ = Φ c i' h' n' x' := by
  obtain ⟨i1, h1', v, ⟨s1, v0, v1, _⟩, e1⟩ := next_eq z hs h 50
  by_cases c0 : v = 0
  · obtain ⟨i2, h2', u, ⟨s2, hu⟩, e2⟩ := pick_eq z s1 h1' [0, 17, (-1)] (by simp)
    refine ⟨i2, h2', u, x, ⟨s2, by omega⟩, fun k hk Φ => ?_⟩
    obtain ⟨k, rfl⟩ := le_ex (show 1 ≤ k by omega)
    simp only [spec_l01Bad, step_succ]
    rw [e1 _ (by omega), if_pos c0, e2 _ (by omega)]
  by_cases c1 : v = 1
  · refine ⟨i1, h1', n, x ++ [0], ⟨s1, by simp⟩, fun k hk Φ => ?_⟩
    obtain ⟨k, rfl⟩ := le_ex (show 1 ≤ k by omega)
    simp only [spec_l01Bad, step_succ]
    rw [e1 _ (by omega), if_neg c0, if_pos c1, own_eq z (by omega) _ (by omega), apI_ok z (by omega)]
  by_cases c2 : v = 2
  · obtain ⟨i2, h2', u, ⟨s2, hu⟩, e2⟩ := pick_eq z s1 h1' [1000000001, (-1000000001), 1099511627776] (by simp)
    refine ⟨i2, h2', n, x.set 0 u, ⟨s2, by rw [List.length_set]; omega⟩, fun k hk Φ => ?_⟩
    obtain ⟨k, rfl⟩ := le_ex (show 1 ≤ k by omega)
    simp only [spec_l01Bad, step_succ]
    rw [e1 _ (by omega), if_neg c0, if_neg c1, if_pos c2, own_eq z (by omega) _ (by omega), e2 _ (by omega), inI_ok z (i := 0) (by omega) (by omega)]
    rfl
  · refine ⟨i1, h1', n, x, ⟨s1, by omega⟩, fun k hk Φ => ?_⟩
    obtain ⟨k, rfl⟩ := le_ex (show 1 ≤ k by omega)
    simp only [spec_l01Bad, step_succ]
    rw [e1 _ (by omega), if_neg c0, if_neg c1, if_neg c2]
theorem draw_eq {c : List Int} {i : Int} (hs : Src c i) (h : Int) : ∃ i' h' n x, (Src c i' ∧ 1 ≤ n ∧ n ≤ 16 ∧ x.length = cycD n.toNat ∧ within 1000000000 x) ∧ ∀ k, 110 ≤ k → ∀ Φ : List Int → Int → Int → Int → List Int → A, spec_l01Draw z k c i h Φ = Φ c i' h' n x := by
  obtain ⟨i1, h1, n, ⟨s1, n1, n2⟩, e1⟩ := drawOrder_eq z hs h
  obtain ⟨i2, h2, p, ⟨s2, hp⟩, e2⟩ := pick_eq z s1 h1 [1, 2, 3, 9, 1000, 400000000] (by simp)
  have hp : 0 ≤ p ∧ p ≤ 1000000000 := by
    simp only [List.mem_cons, List.not_mem_nil, or_false] at hp
    omega
  obtain ⟨i3, h3, x, ⟨s3, l3, w3⟩, e3⟩ := drawOf_eq z s2 h2 ⟨n1, n2⟩ hp
  refine ⟨i3, h3, n, x, ⟨s3, n1, n2, l3, fun q hq => by have := w3 q hq; omega⟩, fun k hk Φ => ?_⟩
  obtain ⟨k, rfl⟩ := le_ex (show 1 ≤ k by omega)
  simp only [spec_l01Draw, step_succ]
  rw [e1 _ (by omega), e2 _ (by omega), e3 _ (by omega)]
theorem spoil_eq {c : List Int} {i : Int} (hs : Src c i) (h : Int) : ∃ i' h' n x, (Src c i' ∧ x.length ≤ 13) ∧ ∀ k, 120 ≤ k → ∀ Φ : List Int → Int → Int → Int → List Int → A, spec_l01Spoil z k c i h Φ = Φ c i' h' n x := by
  obtain ⟨i1, h1, n, x, ⟨s1, n1, n2, l1, w1⟩, e1⟩ := draw_eq z hs h
  have C := cyc_facts (n := n.toNat) (by omega) (by omega)
  have := C.le12
  have := C.pos
  obtain ⟨i2, h2, n', x', ⟨s2, l2⟩, e2⟩ := bad_eq z s1 h1 n (x := x) (by omega) (by omega)
  refine ⟨i2, h2, n', x', ⟨s2, by omega⟩, fun k hk Φ => ?_⟩
  obtain ⟨k, rfl⟩ := le_ex (show 1 ≤ k by omega)
  simp only [spec_l01Spoil, step_succ]
  rw [e1 _ (by omega), e2 _ (by omega)]
theorem near_eq {c : List Int} {i : Int} (hs : Src c i) (h n : Int) : ∃ i' h' v, Src c i' ∧ ∀ k, 4 ≤ k → ∀ Φ : List Int → Int → Int → Int → A, spec_l01Near z k c i h n Φ = Φ c i' h' v := by
  obtain ⟨i1, h1, v, ⟨s1, v0, v1, _⟩, e1⟩ := next_eq z hs h 14
  by_cases c0 : v = 0
  · obtain ⟨i2, h2, u, ⟨s2, hu⟩, e2⟩ := pick_eq z s1 h1 [(-1), (w64 (n + 1)), 1099511627776, (-4611686018427387904)] (by simp)
    refine ⟨i2, h2, u, s2, fun k hk Φ => ?_⟩
    obtain ⟨k, rfl⟩ := le_ex (show 1 ≤ k by omega)
    simp only [spec_l01Near, step_succ]
    rw [e1 _ (by omega), if_pos c0, e2 _ (by omega)]
  · obtain ⟨i2, h2, u, ⟨s2, _⟩, e2⟩ := next_eq z s1 h1 (w64 (n + 1))
    refine ⟨i2, h2, u, s2, fun k hk Φ => ?_⟩
    obtain ⟨k, rfl⟩ := le_ex (show 1 ≤ k by omega)
    simp only [spec_l01Near, step_succ]
    rw [e1 _ (by omega), if_neg c0, e2 _ (by omega)]
end
end Go.Proofs.Ytdnpkbhapdkikaa.F
/- Facts on the functions of the first layer, whole: what the law of images draws. -/
namespace Go.Proofs.Ytdnpkbhapdkikaa.F
open Go.RowKit Go.Proofs.Ytdnpkbhapdkikaa.R
set_option linter.unusedVariables false
set_option linter.unusedSimpArgs false
section
variable {A : Type} (z : A)
theorem drawGalois_eq {c : List Int} (hc : c.length ≤ 4096) (hb : ∀ x ∈ c, 0 ≤ x ∧ x ≤ 255) : ∃ n x a, x.length ≤ 13 ∧ ∀ k, 5000 ≤ k → ∀ Φ : Int → List Int → Int → A, spec_DrawGaloisImage z k c Φ = Φ n x a := by
  obtain ⟨h, i, s, e⟩ := from_eq z hc hb
  obtain ⟨i1, h1, n, x, ⟨s1, l1⟩, e1⟩ := spoil_eq z s h
  obtain ⟨i2, h2, v, s2, e2⟩ := near_eq z s1 h1 15
  obtain ⟨i3, h3, u, ⟨s3, _⟩, e3⟩ := pick_eq z s2 h2 [1, 2, 3, 5, 7, (w64 (n - 1)), (w64 (1 + v))] (by simp)
  refine ⟨n, x, u, l1, fun k hk Φ => ?_⟩
  obtain ⟨k, rfl⟩ := le_ex (show 1 ≤ k by omega)
  simp only [spec_DrawGaloisImage, step_succ]
  rw [e _ (by omega), e1 _ (by omega), e2 _ (by omega), e3 _ (by omega)]
theorem drawConjugate_eq {c : List Int} (hc : c.length ≤ 4096) (hb : ∀ x ∈ c, 0 ≤ x ∧ x ≤ 255) : ∃ n x, x.length ≤ 13 ∧ ∀ k, 5000 ≤ k → ∀ Φ : Int → List Int → A, spec_DrawConjugateOf z k c Φ = Φ n x := by
  obtain ⟨h, i, s, e⟩ := from_eq z hc hb
  obtain ⟨i1, h1, n, x, ⟨s1, l1⟩, e1⟩ := spoil_eq z s h
  refine ⟨n, x, l1, fun k hk Φ => ?_⟩
  obtain ⟨k, rfl⟩ := le_ex (show 1 ≤ k by omega)
  simp only [spec_DrawConjugateOf, step_succ]
  rw [e _ (by omega), e1 _ (by omega)]
theorem in8 {v : Int} (h : v ∈ [(1 : Int), 2, 3, 4, 5, 6, 7, 8]) : 1 ≤ v ∧ v ≤ 8 := by
  simp only [List.mem_cons, List.not_mem_nil, or_false] at h
  omega
theorem cyc_bd {n : Int} (h : 1 ≤ n ∧ n ≤ 16) : 1 ≤ cycD n.toNat ∧ cycD n.toNat ≤ 12 := by
  have C := cyc_facts (n := n.toNat) (by omega) (by omega)
  exact ⟨C.pos, C.le12⟩
theorem drawLift_eq {c : List Int} (hc : c.length ≤ 4096) (hb : ∀ x ∈ c, 0 ≤ x ∧ x ≤ 255) : ∃ n x m, x.length ≤ 13 ∧ ∀ k, 5000 ≤ k → ∀ Φ : Int → List Int → Int → A, spec_DrawLiftCyclo z k c Φ = Φ n x m := by
  obtain ⟨h, i, s, e⟩ := from_eq z hc hb
  obtain ⟨i1, h1, n, ⟨s1, n1⟩, e1⟩ := pick_eq z s h [1, 2, 3, 4, 5, 6, 7, 8] (by simp)
  have n1 := in8 n1
  obtain ⟨i2, h2, p, ⟨s2, hp⟩, e2⟩ := pick_eq z s1 h1 [2, 9, 1000000000] (by simp)
  have hp : 0 ≤ p ∧ p ≤ 1000000000 := by
    simp only [List.mem_cons, List.not_mem_nil, or_false] at hp
    omega
  obtain ⟨i3, h3, x, ⟨s3, l3, w3⟩, e3⟩ := drawOf_eq z s2 h2 (n := n) ⟨by omega, by omega⟩ hp
  have := cyc_bd (n := n) ⟨by omega, by omega⟩
  obtain ⟨i4, h4, n', x', ⟨s4, l4⟩, e4⟩ := bad_eq z s3 h3 n (x := x) (by omega) (by omega)
  obtain ⟨i5, h5, u, ⟨s5, _⟩, e5⟩ := pick_eq z s4 h4 [1, 2, 2, 3, 4] (by simp)
  obtain ⟨i6, h6, v, ⟨s6, _⟩, e6⟩ := pick_eq z s5 h5 [0, 0, 0, 0, 1] (by simp)
  refine ⟨n', x', w64 (w64 (n' * u) + v), by omega, fun k hk Φ => ?_⟩
  obtain ⟨k, rfl⟩ := le_ex (show 1 ≤ k by omega)
  simp only [spec_DrawLiftCyclo, step_succ]
  rw [e _ (by omega), e1 _ (by omega), e2 _ (by omega), e3 _ (by omega), e4 _ (by omega), e5 _ (by omega), e6 _ (by omega)]
theorem plus_g {y : List Int} (hy : y.length ≤ 1000) (v : Int) : ∀ (d j k : Nat) (o : List Int), j + d = y.length → y.length ≤ o.length → d + 1 ≤ k → ∀ K0 : List Int → A,
    spec_l01Plus.g4 z k v (j : Int) y o K0 = K0 (addIn y v 0 d j o)
  | d, j, 0, o, _, _, hk, K0 => absurd hk (by omega)
  | 0, j, k + 1, o, hj, ho, hk, K0 => by
    rw [spec_l01Plus.g4, if_neg (by omega)]
    rfl
  | d + 1, j, k + 1, o, hj, ho, hk, K0 => by
    rw [spec_l01Plus.g4, if_pos (by omega), inI_at z (by omega), inI_at z (by omega), inI_at z (by omega), w64_up (by omega), plus_g hy v d (j + 1) k _ (by omega) (by rw [List.length_set]; omega) (by omega)]
    rw [show addIn y v 0 (d + 1) j o = addIn y v 0 d (j + 1) (o.set j (w64 (o.getD j 0 + w64 (v * y.getD j 0)))) by rw [addIn, Nat.zero_add]; rfl]
theorem plus_eq (m n : Int) {x y : List Int} (hx : x.length ≤ 1000) (hy : y.length ≤ x.length) (v : Int) (k : Nat) (hk : y.length + 3 ≤ k) (Φ : Int → List Int → A) : spec_l01Plus z k m x n y v Φ = Φ m (addIn y v 0 y.length 0 x) := by
  obtain ⟨k, rfl⟩ := le_ex (show 1 ≤ k by omega)
  simp only [spec_l01Plus, step_succ]
  rw [own_eq z (by omega) _ (by omega)]
  exact plus_g z (by omega) v y.length 0 k x (by omega) hy (by omega) _
theorem unit_eq {n : Nat} (h1 : 1 ≤ n) (h2 : n ≤ 16) : ∃ o, o.length = cycD n ∧ ∀ k, 300 ≤ k → ∀ Φ : Int → List Int → A, spec_l01Unit z k (n : Int) 1 Φ = Φ n o := by
  have hy : (w64 (Int.tmod 1 (n : Int) + n)).tmod n = ((1 % n : Nat) : Int) := by
    rw [show (1 : Int) = ((1 : Nat) : Int) from rfl, tmod_nat, ← Int.natCast_add, w64_id (by omega) (by have := Nat.mod_lt 1 h1; omega), tmod_nat, Nat.add_mod_right, Nat.mod_mod]
  have hr := Nat.mod_lt 1 h1
  have hw : Wrapped ((List.replicate (1 % n + 1) (0 : Int)).set (1 % n) 1) := by
    have := (wrapped_zeros (1 % n + 1)).set (1 % n) 1
    rwa [wrap_id (by omega) (by omega)] at this
  refine ⟨tab (cycD n) fun m => wrap64 (dot ((List.replicate (1 % n + 1) (0 : Int)).set (1 % n) 1) (cycW n m)), tab_length _ _, fun k hk Φ => ?_⟩
  obtain ⟨k, rfl⟩ := le_ex (show 1 ≤ k by omega)
  simp only [spec_l01Unit, step_succ]
  rw [gd_ok z (by omega), gd_ok z (by omega), hy, w64_up (by omega), mkI_at z (by omega), inI_at z (by rw [List.length_replicate]; omega)]
  exact reduce_eq z h1 h2 (by rw [List.length_set, List.length_replicate]; omega) hw k (by rw [List.length_set, List.length_replicate]; omega) Φ
theorem drawIn_g {c : List Int} {i : Int} (hs : Src c i) (h m n : Int) {x : List Int} (hx : 1 ≤ x.length ∧ x.length ≤ 12) : ∃ n' x' m', x'.length ≤ 13 ∧ ∀ k, 10 ≤ k → ∀ K0 : Int → Int → List Int → A, spec_DrawIsInField.g4 z k m c i h n x K0 = K0 m' n' x' := by
  obtain ⟨i1, h1, n', x', ⟨s1, l1⟩, e1⟩ := bad_eq z hs h n (x := x) (by omega) (by omega)
  obtain ⟨i2, h2, v, s2, e2⟩ := near_eq z s1 h1 16
  obtain ⟨i3, h3, m', ⟨s3, _⟩, e3⟩ := pick_eq z s2 h2 [m, m, m, 1, 2, 3, v] (by simp)
  refine ⟨n', x', m', by omega, fun k hk K0 => ?_⟩
  obtain ⟨k, rfl⟩ := le_ex (show 1 ≤ k by omega)
  rw [spec_DrawIsInField.g4, e1 k (by omega), e2 k (by omega), e3 k (by omega)]
theorem drawIn_eq {c : List Int} (hc : c.length ≤ 4096) (hb : ∀ x ∈ c, 0 ≤ x ∧ x ≤ 255) : ∃ n x m, x.length ≤ 13 ∧ ∀ k, 5000 ≤ k → ∀ Φ : Int → List Int → Int → A, spec_DrawIsInField z k c Φ = Φ n x m := by
  obtain ⟨h, i, s, e⟩ := from_eq z hc hb
  obtain ⟨i1, h1, m, ⟨s1, m1⟩, e1⟩ := pick_eq z s h [1, 2, 3, 4, 5, 6, 7, 8] (by simp)
  have m1 := in8 m1
  obtain ⟨i2, h2, q, ⟨s2, hq⟩, e2⟩ := pick_eq z s1 h1 [1, 2, 2, 3] (by simp)
  have hq : 1 ≤ q ∧ q ≤ 3 := by
    simp only [List.mem_cons, List.not_mem_nil, or_false] at hq
    omega
  obtain ⟨i3, h3, x, ⟨s3, l3, w3⟩, e3⟩ := drawOf_eq z s2 h2 (n := m) (p := 9) ⟨by omega, by omega⟩ (by omega)
  obtain ⟨m, rfl⟩ : ∃ j : Nat, m = j := ⟨m.toNat, by omega⟩
  obtain ⟨q, rfl⟩ : ∃ j : Nat, q = j := ⟨q.toNat, by omega⟩
  have C := cyc_facts (n := m) (by omega) (by omega)
  have := C.pos
  have := C.le12
  have := C.leN
  rw [Int.toNat_natCast] at l3
  have hmq : m * q ≤ 8 * 3 := Nat.mul_le_mul (by omega) (by omega)
  have hmq1 : 1 * 1 ≤ m * q := Nat.mul_le_mul (by omega) (by omega)
  have hw : w64 ((m : Int) * q) = ((m * q : Nat) : Int) := by rw [← Int.natCast_mul, w64_id (by omega) (by omega)]
  by_cases c1 : m * q ≤ 16
  · have C2 := cyc_facts (n := m * q) (by omega) (by omega)
    have := C2.pos
    have := C2.le12
    have hl : (liftT (m * q) (m * q / m) x).length = cycD (m * q) := tab_length _ _
    obtain ⟨i4, h4, u, ⟨s4, _⟩, e4⟩ := next_eq z s3 h3 3
    by_cases c2 : u = 0
    · obtain ⟨o, lo, eo⟩ := unit_eq z (n := m * q) (by omega) (by omega)
      obtain ⟨n', x', m', l5, e5⟩ := drawIn_g z s4 h4 (m : Int) ((m * q : Nat) : Int) (x := addIn o 1 0 o.length 0 (liftT (m * q) (m * q / m) x)) (by rw [addIn_length]; omega)
      refine ⟨n', x', m', l5, fun k hk Φ => ?_⟩
      obtain ⟨k, rfl⟩ := le_ex (show 1 ≤ k by omega)
      simp only [spec_DrawIsInField, step_succ]
      rw [e _ (by omega), e1 _ (by omega), e2 _ (by omega), e3 _ (by omega), hw, if_pos (by omega), slift_eq z (by omega) (by omega) (by omega) (by omega) (Nat.mul_mod_right m q) (by omega) (fun q hq => by have := w3 q hq; omega) _ (by omega), e4 _ (by omega), if_pos c2, eo _ (by omega), plus_eq z _ _ (by omega) (by omega) _ _ (by omega)]
      exact e5 _ (by omega) _
    · obtain ⟨n', x', m', l5, e5⟩ := drawIn_g z s4 h4 (m : Int) ((m * q : Nat) : Int) (x := liftT (m * q) (m * q / m) x) (by omega)
      refine ⟨n', x', m', l5, fun k hk Φ => ?_⟩
      obtain ⟨k, rfl⟩ := le_ex (show 1 ≤ k by omega)
      simp only [spec_DrawIsInField, step_succ]
      rw [e _ (by omega), e1 _ (by omega), e2 _ (by omega), e3 _ (by omega), hw, if_pos (by omega), slift_eq z (by omega) (by omega) (by omega) (by omega) (Nat.mul_mod_right m q) (by omega) (fun q hq => by have := w3 q hq; omega) _ (by omega), e4 _ (by omega), if_neg c2]
      exact e5 _ (by omega) _
  · obtain ⟨n', x', m', l5, e5⟩ := drawIn_g z s3 h3 (m : Int) (m : Int) (x := x) (by omega)
    refine ⟨n', x', m', l5, fun k hk Φ => ?_⟩
    obtain ⟨k, rfl⟩ := le_ex (show 1 ≤ k by omega)
    simp only [spec_DrawIsInField, step_succ]
    rw [e _ (by omega), e1 _ (by omega), e2 _ (by omega), e3 _ (by omega), hw, if_neg (by omega)]
    exact e5 _ (by omega) _
theorem drawReal_eq {c : List Int} (hc : c.length ≤ 4096) (hb : ∀ x ∈ c, 0 ≤ x ∧ x ≤ 255) : ∃ n x, x.length ≤ 13 ∧ ∀ k, 5000 ≤ k → ∀ Φ : Int → List Int → A, spec_DrawIsReal z k c Φ = Φ n x := by
  obtain ⟨h, i, s, e⟩ := from_eq z hc hb
  obtain ⟨i1, h1, n, ⟨s1, n1, n2⟩, e1⟩ := drawOrder_eq z s h
  obtain ⟨i2, h2, p, ⟨s2, hp⟩, e2⟩ := pick_eq z s1 h1 [2, 9, 1000] (by simp)
  have hp : 0 ≤ p ∧ p ≤ 1000000000 := by
    simp only [List.mem_cons, List.not_mem_nil, or_false] at hp
    omega
  obtain ⟨i3, h3, x, ⟨s3, l3, w3⟩, e3⟩ := drawOf_eq z s2 h2 (n := n) ⟨n1, n2⟩ hp
  obtain ⟨n, rfl⟩ : ∃ j : Nat, n = j := ⟨n.toNat, by omega⟩
  have C := cyc_facts (n := n) (by omega) (by omega)
  have := C.pos
  have := C.le12
  rw [Int.toNat_natCast] at l3
  obtain ⟨i4, h4, u, ⟨s4, _⟩, e4⟩ := next_eq z s3 h3 2
  by_cases c2 : u = 0
  · obtain ⟨i5, h5, n', x', ⟨s5, l5⟩, e5⟩ := bad_eq z s4 h4 (n : Int) (x := addIn (imT n x (-1)) 1 0 (imT n x (-1)).length 0 x) (by rw [addIn_length]; omega) (by rw [addIn_length]; omega)
    rw [addIn_length] at l5
    refine ⟨n', x', by omega, fun k hk Φ => ?_⟩
    obtain ⟨k, rfl⟩ := le_ex (show 1 ≤ k by omega)
    simp only [spec_DrawIsReal, step_succ]
    rw [e _ (by omega), e1 _ (by omega), e2 _ (by omega), e3 _ (by omega), e4 _ (by omega), if_pos c2, bar_eq z (by omega) (by omega) (by omega) _ (by omega), plus_eq z _ _ (by omega) (by rw [imT_len]; omega) _ _ (by rw [imT_len]; omega), e5 _ (by omega)]
  · obtain ⟨i5, h5, n', x', ⟨s5, l5⟩, e5⟩ := bad_eq z s4 h4 (n : Int) (x := x) (by omega) (by omega)
    refine ⟨n', x', by omega, fun k hk Φ => ?_⟩
    obtain ⟨k, rfl⟩ := le_ex (show 1 ≤ k by omega)
    simp only [spec_DrawIsReal, step_succ]
    rw [e _ (by omega), e1 _ (by omega), e2 _ (by omega), e3 _ (by omega), e4 _ (by omega), if_neg c2, e5 _ (by omega)]
end
end Go.Proofs.Ytdnpkbhapdkikaa.F
/- What images, conjugates, sums and lifts keep to. Plain. -/
namespace Go.Proofs.Ytdnpkbhapdkikaa.F
open Go.RowKit Go.Proofs.Ytdnpkbhapdkikaa.R
set_option linter.unusedVariables false
set_option linter.unusedSimpArgs false
theorem imT_nat {n : Nat} (h1 : 1 ≤ n) (h2 : n ≤ 16) {x : List Int} (hx : GoodZ n x) (a : Nat) : imT n x (a : Int) = tab (cycD n) (galN n x a) := by
  have C := cyc_facts h1 h2
  have := C.le12
  refine tab_congr fun m hm => ?_
  have h := gal_le C h1 (B := 1000000000) (by omega) hx.2 (by rw [hx.1]; omega) (a : Int) m
  rw [wrap_id (by omega) (by omega), gal_nat]
theorem gal_neg {n : Nat} (h1 : 1 ≤ n) (x : List Int) (m : Nat) : gal n x (-1) m = gal n x ((n - 1 : Nat) : Int) m := by
  unfold gal
  refine sumF_congr _ 0 fun i _ _ => ?_
  have e : ((i : Int) * ((n - 1 : Nat) : Int)) % (n : Int) = ((i : Int) * (-1)) % (n : Int) := by
    have e1 : (i : Int) * ((n - 1 : Nat) : Int) = (i : Int) * (-1) + (i : Int) * n := by
      rw [← Int.mul_add]
      congr 1
      omega
    rw [e1, Int.add_mul_emod_self_right]
  rw [e]
theorem imT_neg {n : Nat} (h1 : 1 ≤ n) (x : List Int) : imT n x (-1) = imT n x ((n - 1 : Nat) : Int) := tab_congr fun m _ => by rw [gal_neg h1]
theorem neg_tab : ∀ n : Nat, 1 ≤ n → n ≤ 16 → Nat.gcd (n - 1) n = 1 ∧ (n - 1) * (n - 1) % n = 1 % n :=
  by16 (by decide) (by decide) (by decide) (by decide) (by decide) (by decide) (by decide) (by decide) (by decide) (by decide) (by decide) (by decide) (by decide) (by decide) (by decide) (by decide)
theorem rd_imT {n : Nat} (x : List Int) (a : Int) {j : Nat} (hj : j < cycD n) : rd (imT n x a) j = wrap64 (gal n x a j) := tab_rd _ _ _ hj
/-- An image of a square is the square of the image. -/
theorem image_square {n : Nat} (h1 : 1 ≤ n) (h2 : n ≤ 16) {x y P Q : List Int} (hx : GoodZ n x) (hy : GoodZ n y) {a : Nat} (ha : Nat.gcd a n = 1) (hP : mulO n x y = some P) (hQ : mulO n (imT n x (a : Int)) (imT n y (a : Int)) = some Q) : imT n P (a : Int) = Q := by
  rw [imT_nat h1 h2 (mulO_good hP), ]
  rw [imT_nat h1 h2 hx, imT_nat h1 h2 hy] at hQ
  unfold mulO at hP hQ
  split at hP
  · split at hQ
    · cases hP
      cases hQ
      exact tab_congr fun m hm => gal_bil h1 h2 a ha x y m hm
    · cases hQ
  · cases hP
theorem bar_bar {n : Nat} (h1 : 1 ≤ n) (h2 : n ≤ 16) {x : List Int} (hx : GoodZ n x) (hy : GoodZ n (imT n x (-1))) : imT n (imT n x (-1)) (-1) = x := by
  obtain ⟨g, s⟩ := neg_tab n h1 h2
  rw [imT_neg h1 (imT n x (-1)), imT_nat h1 h2 hy, imT_neg h1, imT_nat h1 h2 hx]
  refine (tab_ext hx.1 fun m hm => ?_).symm
  rw [gal_gal h1 h2 _ _ g x m hm, gal_one (cyc_facts h1 h2) x hx.1 _ s m hm]
theorem plusL_length (x y : List Int) (v : Int) : (plusL x y v).length = x.length := addIn_length y v 0 y.length 0 x
theorem good_wrapped {n : Nat} {x : List Int} (hx : GoodZ n x) : Wrapped x := fun j hj => by
  have := hx.2 j hj
  exact wrap_id (by omega) (by omega)
theorem plusL_rd {n : Nat} {x y : List Int} (hx : GoodZ n x) (hy : GoodZ n y) (hs : GoodZ n (plusL x y 1)) {j : Nat} (hj : j < cycD n) : rd (plusL x y 1) j = rd x j + rd y j := by
  have l1 := hx.1
  have l2 := hy.1
  obtain ⟨a1, a2, a3⟩ := addIn_facts y 1 0 y.length 0 x (by omega) (good_wrapped hx)
  have h := a3 (fun i => if j = i then 1 else 0)
  have e : sumF 0 y.length (fun i => rd y i * (if j = 0 + i then 1 else 0)) = rd y j := by
    have := dot_one y j (by omega)
    unfold dot at this
    rw [← this]
    exact sumF_congr _ 0 fun i _ _ => by rw [Nat.zero_add]
  have hl : j < (addIn y 1 0 y.length 0 x).length := by rw [a1]; omega
  rw [e, dot_one x j (by omega), dot_one _ j hl, Int.one_mul] at h
  have := h.eq
  have b1 := hx.2 j (by omega)
  have b2 := hy.2 j (by omega)
  have b3 := hs.2 j (by rw [plusL_length]; omega)
  unfold plusL at b3 ⊢
  rw [wrap_id (x := rd x j + rd y j) (by omega) (by omega), wrap_id (by omega) (by omega)] at this
  exact this
theorem galN_plus {n : Nat} {x y s : List Int} (hx : x.length = cycD n) (hy : y.length = cycD n) (hs : s.length = cycD n) (h : ∀ j : Nat, j < cycD n → rd s j = rd x j + rd y j) (a m : Nat) : galN n s a m = galN n x a m + galN n y a m := by
  unfold galN
  rw [hx, hy, hs, ← sumF_add]
  exact sumF_congr _ 0 fun i _ hi => by rw [h i (by omega), Int.add_mul]
theorem plus_bar {n : Nat} (h1 : 1 ≤ n) (h2 : n ≤ 16) {x : List Int} (hx : GoodZ n x) (hy : GoodZ n (imT n x (-1))) (hs : GoodZ n (plusL x (imT n x (-1)) 1)) : imT n (plusL x (imT n x (-1)) 1) (-1) = plusL x (imT n x (-1)) 1 := by
  obtain ⟨g, s⟩ := neg_tab n h1 h2
  have bb := bar_bar h1 h2 hx hy
  have hp := fun {j : Nat} (hj : j < cycD n) => plusL_rd hx hy hs hj
  have e1 : imT n x (-1) = tab (cycD n) (galN n x (n - 1)) := by rw [imT_neg h1, imT_nat h1 h2 hx]
  have e2 : imT n (imT n x (-1)) (-1) = tab (cycD n) (galN n (imT n x (-1)) (n - 1)) := by rw [imT_neg h1 (imT n x (-1)), imT_nat h1 h2 hy]
  rw [imT_neg h1 (plusL x (imT n x (-1)) 1), imT_nat h1 h2 hs]
  refine (tab_ext hs.1 fun m hm => ?_).symm
  rw [hp hm, galN_plus hx.1 hy.1 hs.1 (fun j hj => hp hj)]
  have f1 : rd (imT n x (-1)) m = galN n x (n - 1) m := by rw [e1, tab_rd _ _ _ hm]
  have f2 : rd x m = galN n (imT n x (-1)) (n - 1) m := by
    have := tab_rd (cycD n) (galN n (imT n x (-1)) (n - 1)) m hm
    rw [← this, ← e2, bb]
  omega
theorem galQ_le {n : Nat} (C : CycFacts n) (hn : 1 ≤ n) {x : List Int} (hx : within 1000000000 x) (hl : x.length ≤ 12) (q : Nat → Nat) (m : Nat) : -12000000000 ≤ galQ n x q m ∧ galQ n x q m ≤ 12000000000 := by
  have h := sumF_le (B := 1000000000) (f := fun i => rd x i * cycW n m (q i)) x.length 0 (fun i _ hi => by
    have := mul_le (hx i (by omega)) (cycW_small C hn m (q i))
    omega)
  unfold galQ
  omega
theorem lift_kept {n m : Nat} (h1 : 1 ≤ n) (h2 : n ≤ 16) (m1 : 1 ≤ m) (m2 : m ≤ 16) (hd : m % n = 0) {x : List Int} (hx : GoodZ n x) (hL : GoodZ m (liftT m (m / n) x)) {a : Nat} (ha1 : 1 ≤ a) (ha : Nat.gcd a m = 1) (hm : (a - 1) % n = 0) : imT m (liftT m (m / n) x) (a : Int) = liftT m (m / n) x := by
  have C := cyc_facts m1 m2
  have Cn := cyc_facts h1 h2
  have := Cn.le12
  have lx := hx.1
  have e : liftT m (m / n) x = tab (cycD m) (galQ m x (fun i => i * (m / n) % m)) := tab_congr fun j _ => by
    have := galQ_le C m1 hx.2 (by omega) (fun i => i * (m / n) % m) j
    exact w64_id (by omega) (by omega)
  rw [imT_nat m1 m2 hL, e]
  refine tab_congr fun j hj => ?_
  rw [gal_galQ m1 m2 a ha x _ j hj]
  unfold galQ
  refine sumF_congr _ 0 fun i _ _ => congrArg (rd x i * ·) ?_
  rw [cycW_mul, ← cycW_mod m j (i * (m / n) * a), ← cycW_mod m j (i * (m / n) % m), Nat.mod_mod]
  congr 1
  obtain ⟨t, ht⟩ : ∃ t, a = 1 + n * t := ⟨(a - 1) / n, by have := Nat.div_add_mod (a - 1) n; omega⟩
  have hs : n * (m / n) = m := by have := Nat.div_add_mod m n; omega
  rw [ht, Nat.mul_add, Nat.mul_one, show i * (m / n) * (n * t) = m * (i * t) by rw [Nat.mul_assoc, ← Nat.mul_assoc (m / n), Nat.mul_comm (m / n) n, hs, Nat.mul_left_comm], Nat.add_mul_mod_self_left]
theorem allF_true {n m : Nat} {x : List Int} (h : ∀ a : Nat, 1 ≤ a → Nat.gcd a n = 1 → (a - 1) % m = 0 → imT n x (a : Int) = x) : ∀ (d a : Nat), 1 ≤ a → allF n m x d a = true
  | 0, a, _ => rfl
  | d + 1, a, ha => by
    rw [allF]
    by_cases c : (a - 1) % m = 0 ∧ Nat.gcd a n = 1
    · rw [if_pos c, if_pos (h a ha c.2 c.1), allF_true h d (a + 1) (by omega)]
    · rw [if_neg c, allF_true h d (a + 1) (by omega)]
end Go.Proofs.Ytdnpkbhapdkikaa.F
/- The law of images, whole. -/
namespace Go.Proofs.Ytdnpkbhapdkikaa.F
open Go.RowKit Go.Proofs.Ytdnpkbhapdkikaa.R
set_option linter.unusedVariables false
set_option linter.unusedSimpArgs false
theorem told3_zero {n : Int} {l : List Int} (h : (told3 n l).2.2 = 0) : smallL l = true ∧ told3 n l = (n, l, 0) := by
  unfold told3 at h ⊢
  split at h
  · rename_i c; exact ⟨c, if_pos c⟩
  · exact absurd h (by decide)
theorem isC_of {n : Nat} (h1 : 1 ≤ n) (h2 : n ≤ 16) {l : List Int} (hl : l.length = cycD n) (hs : smallL l = true) : isC (n : Int) l = true := by
  unfold isC
  rw [decide_eq_true (show 1 ≤ (n : Int) ∧ (n : Int) ≤ 16 by omega), Int.toNat_natCast, decide_eq_true hl, hs]
  rfl
theorem told3_len (n : Int) (l : List Int) : (told3 n l).2.1.length ≤ l.length := by
  unfold told3
  split
  · exact Nat.le_refl _
  · exact Nat.zero_le _
theorem gal3_zero {n a : Int} {x : List Int} (h : (gal3 n x a).2.2 = 0) : ∃ m b : Nat, n = m ∧ a = b ∧ 1 ≤ m ∧ m ≤ 16 ∧ GoodZ m x ∧ 1 ≤ b ∧ b ≤ m ∧ Nat.gcd b m = 1 ∧ smallL (imT m x (b : Int)) = true ∧ gal3 n x a = ((m : Int), imT m x (b : Int), 0) := by
  unfold gal3 at h ⊢
  split at h
  · rename_i c
    obtain ⟨m, rfl, h1, h2, h3, h4, h5⟩ := isC_x c
    rw [Int.toNat_natCast] at h ⊢
    split at h
    · rename_i c2
      obtain ⟨b, rfl⟩ : ∃ j : Nat, a = j := ⟨a.toNat, by omega⟩
      obtain ⟨s, e⟩ := told3_zero h
      exact ⟨m, b, rfl, rfl, h1, h2, h5, by omega, by omega, c2.2, s, by rw [if_pos c, if_pos c2, e]⟩
    · exact absurd h (by decide)
  · exact absurd h (by decide)
theorem gal3_len {n a : Int} {x : List Int} : (gal3 n x a).2.1.length ≤ 12 := by
  unfold gal3
  split
  · rename_i c
    obtain ⟨m, rfl, h1, h2, h3, h4, h5⟩ := isC_x c
    split
    · refine Nat.le_trans (told3_len _ _) ?_
      rw [imT_len, Int.toNat_natCast]
      exact le12 h1 h2
    · exact Nat.zero_le _
  · exact Nat.zero_le _
theorem mul3_zero {m n : Int} {x y : List Int} (h : (mul3 m x n y).2.2 = 0) : ∃ P, isC m x = true ∧ isC n y = true ∧ m = n ∧ mulO m.toNat x y = some P ∧ mul3 m x n y = (m, P, 0) := by
  unfold mul3 at h ⊢
  split at h
  · rename_i c; exact absurd h c
  · rename_i c
    obtain ⟨c1, c2, c3⟩ := codeC_zero (Decidable.of_not_not c)
    rw [if_neg c]
    cases e : mulO m.toNat x y with
    | none =>
      rw [e] at h
      have h : (3 : Int) = 0 := h
      omega
    | some P => exact ⟨P, c1, c2, c3, rfl, rfl⟩
theorem mul3_len {m n : Int} {x y : List Int} : (mul3 m x n y).2.1.length ≤ 12 := by
  unfold mul3
  split
  · exact Nat.zero_le _
  · rename_i c
    obtain ⟨c1, c2, c3⟩ := codeC_zero (Decidable.of_not_not c)
    obtain ⟨m, rfl, h1, h2, h3, h4, h5⟩ := isC_x c1
    rw [Int.toNat_natCast]
    cases e : mulO m x y with
    | none => exact Nat.zero_le _
    | some P =>
      have := (mulO_good e).1
      have := le12 h1 h2
      show P.length ≤ 12
      omega
/-- The square's image, and the image's square. -/
theorem square_kept {n a : Int} {x : List Int} (h : (gal3 n x a).2.2 = 0) (h1 : (mul3 n x n x).2.2 = 0) (h2 : (gal3 (mul3 n x n x).1 (mul3 n x n x).2.1 a).2.2 = 0)
    (h3 : (mul3 (gal3 n x a).1 (gal3 n x a).2.1 (gal3 n x a).1 (gal3 n x a).2.1).2.2 = 0) :
    (gal3 (mul3 n x n x).1 (mul3 n x n x).2.1 a).1 = (mul3 (gal3 n x a).1 (gal3 n x a).2.1 (gal3 n x a).1 (gal3 n x a).2.1).1 ∧
    (gal3 (mul3 n x n x).1 (mul3 n x n x).2.1 a).2.1 = (mul3 (gal3 n x a).1 (gal3 n x a).2.1 (gal3 n x a).1 (gal3 n x a).2.1).2.1 := by
  obtain ⟨m, b, rfl, rfl, m1, m2, gx, b1, b2, g, s, e⟩ := gal3_zero h
  obtain ⟨P, c1, c2, c3, p1, p2⟩ := mul3_zero h1
  rw [p2] at h2 ⊢
  obtain ⟨m', b', hm, hb, _, _, gp, _, _, _, sp, ep⟩ := gal3_zero h2
  have hm : m' = m := by have : (m : Int) = m' := hm; omega
  have hb : b' = b := by omega
  subst hm hb
  rw [e] at h3 ⊢
  obtain ⟨Q, d1, d2, d3, q1, q2⟩ := mul3_zero h3
  rw [q2, ep]
  rw [Int.toNat_natCast] at p1 q1
  exact ⟨rfl, image_square m1 m2 gx gx g p1 q1⟩
theorem bar3_zero {n : Int} {x : List Int} (h : (bar3 n x).2.2 = 0) : ∃ m : Nat, n = m ∧ 1 ≤ m ∧ m ≤ 16 ∧ GoodZ m x ∧ GoodZ m (imT m x (-1)) ∧ bar3 n x = ((m : Int), imT m x (-1), 0) := by
  unfold bar3 at h ⊢
  split at h
  · rename_i c
    obtain ⟨m, rfl, h1, h2, h3, h4, h5⟩ := isC_x c
    rw [Int.toNat_natCast] at h ⊢
    obtain ⟨s, e⟩ := told3_zero h
    exact ⟨m, rfl, h1, h2, h5, ⟨imT_len _ _ _, smallL_within.1 s⟩, by rw [if_pos c, e]⟩
  · exact absurd h (by decide)
theorem bar3_of {m : Nat} (h1 : 1 ≤ m) (h2 : m ≤ 16) {x : List Int} (hx : GoodZ m x) (hy : GoodZ m (imT m x (-1))) : bar3 (m : Int) x = ((m : Int), imT m x (-1), 0) := by
  unfold bar3
  rw [if_pos (isC_of h1 h2 hx.1 (good_small hx)), Int.toNat_natCast]
  unfold told3
  rw [if_pos (good_small hy)]
theorem bar3_len {n : Int} {x : List Int} : (bar3 n x).2.1.length ≤ 12 := by
  unfold bar3
  split
  · rename_i c
    obtain ⟨m, rfl, h1, h2, h3, h4, h5⟩ := isC_x c
    refine Nat.le_trans (told3_len _ _) ?_
    rw [imT_len, Int.toNat_natCast]
    exact le12 h1 h2
  · exact Nat.zero_le _
theorem bar_kept {n : Int} {x : List Int} (h : (bar3 n x).2.2 = 0) : bar3 (bar3 n x).1 (bar3 n x).2.1 = (n, x, 0) := by
  obtain ⟨m, rfl, m1, m2, gx, gy, e⟩ := bar3_zero h
  have bb := bar_bar m1 m2 gx gy
  rw [e]
  show bar3 (m : Int) (imT m x (-1)) = _
  rw [bar3_of m1 m2 gy (by rw [bb]; exact gx), bb]
theorem add3_len {m n : Int} {x y : List Int} {v : Int} : (add3 m x n y v).2.1.length ≤ 12 := by
  unfold add3
  split
  · exact Nat.zero_le _
  · rename_i c
    obtain ⟨c1, c2, c3⟩ := codeC_zero (Decidable.of_not_not c)
    obtain ⟨m, rfl, h1, h2, h3, h4, h5⟩ := isC_x c1
    split
    · refine Nat.le_trans (told3_len _ _) ?_
      rw [plusL_length]
      exact h4
    · exact Nat.zero_le _
theorem plus_kept {n : Int} {x : List Int} (h : (bar3 n x).2.2 = 0) (h2 : (add3 n x (bar3 n x).1 (bar3 n x).2.1 1).2.2 = 0) : real2 (add3 n x (bar3 n x).1 (bar3 n x).2.1 1).1 (add3 n x (bar3 n x).1 (bar3 n x).2.1 1).2.1 = (true, 0) := by
  obtain ⟨m, rfl, m1, m2, gx, gy, e⟩ := bar3_zero h
  rw [e] at h2 ⊢
  have h2 : (add3 (m : Int) x (m : Int) (imT m x (-1)) 1).2.2 = 0 := h2
  show real2 (add3 (m : Int) x (m : Int) (imT m x (-1)) 1).1 (add3 (m : Int) x (m : Int) (imT m x (-1)) 1).2.1 = _
  unfold add3 at h2 ⊢
  split at h2
  · rename_i c; exact absurd h2 c
  · rename_i c
    rw [if_neg c]
    rw [if_pos (show -1000 ≤ (1 : Int) ∧ (1 : Int) ≤ 1000 by omega)] at h2 ⊢
    obtain ⟨s, e3⟩ := told3_zero h2
    rw [e3]
    have gs : GoodZ m (plusL x (imT m x (-1)) 1) := ⟨by rw [plusL_length]; exact gx.1, smallL_within.1 s⟩
    show real2 (m : Int) (plusL x (imT m x (-1)) 1) = _
    unfold real2
    rw [if_pos (isC_of m1 m2 gs.1 s), Int.toNat_natCast, decide_eq_true (plus_bar m1 m2 gx gy gs)]
theorem lift3_len {n m : Int} {x : List Int} : (lift3 n x m).2.1.length ≤ 12 := by
  unfold lift3
  split
  · split
    · split
      · refine Nat.le_trans (told3_len _ _) ?_
        unfold liftT
        rw [tab_length]
        exact le12 (by omega) (by omega)
      · exact Nat.zero_le _
    · exact Nat.zero_le _
  · exact Nat.zero_le _
theorem lift3_kept {n m : Int} {x : List Int} (h : (lift3 n x m).2.2 = 0) : inF (lift3 n x m).1 (lift3 n x m).2.1 n = (true, 0) := by
  unfold lift3 at h ⊢
  split at h
  · rename_i c
    obtain ⟨n, rfl, h1, h2, h3, h4, h5⟩ := isC_x c
    rw [if_pos c]
    split at h
    · rename_i c2
      obtain ⟨m, rfl⟩ : ∃ j : Nat, m = j := ⟨m.toNat, by omega⟩
      rw [if_pos c2]
      rw [Int.toNat_natCast, Int.toNat_natCast] at h ⊢
      split at h
      · rename_i c3
        rw [if_pos c3]
        obtain ⟨s, e⟩ := told3_zero h
        rw [e]
        have hl : (liftT m (m / n) x).length = cycD m := tab_length _ _
        have gs : GoodZ m (liftT m (m / n) x) := ⟨hl, smallL_within.1 s⟩
        show inF (m : Int) (liftT m (m / n) x) (n : Int) = _
        unfold inF
        rw [if_pos (isC_of (by omega) (by omega) hl s), Int.toNat_natCast, Int.toNat_natCast, if_pos ⟨by omega, c3⟩]
        rw [allF_true (fun a a1 a2 a3 => lift_kept h1 h2 (by omega) (by omega) c3 h5 gs a1 a2 a3) m 1 (by omega)]
      · exact absurd h (by decide)
    · exact absurd h (by decide)
  · exact absurd h (by decide)
section
variable {A : Type} (z : A)
theorem law_g40 {c : List Int} (hc : c.length ≤ 4096) (hb : ∀ x ∈ c, 0 ≤ x ∧ x ≤ 255) {K0 : Bool → A} (k : Nat) (hk : 6000 ≤ k) : laws_FnGalois.g40 z k c K0 = K0 true := by
  obtain ⟨k, rfl, hk⟩ := up (show 5999 + 1 ≤ k by omega)
  obtain ⟨n, x, m, l, e⟩ := drawIn_eq z hc hb
  obtain ⟨n', x', l', e'⟩ := drawReal_eq z hc hb
  rw [laws_FnGalois.g40, e k (by omega), isInField_eq z n (by omega) m k (by omega), specIsInField_eq z n (by omega) m k (by omega), e' k (by omega), isReal_eq z n' (by omega) k (by omega), specIsReal_eq z n' (by omega) k (by omega), if_pos rfl, if_pos rfl, if_pos rfl, decide_eq_true rfl]
theorem law_g23 {c : List Int} (hc : c.length ≤ 4096) (hb : ∀ x ∈ c, 0 ≤ x ∧ x ≤ 255) {K0 : Bool → A} (k : Nat) (hk : 6001 ≤ k) : laws_FnGalois.g23 z k c K0 = K0 true := by
  obtain ⟨k, rfl, hk⟩ := up (show 6000 + 1 ≤ k by omega)
  obtain ⟨n, x, m, l, e⟩ := drawLift_eq z hc hb
  have hl := lift3_len (n := n) (m := m) (x := x)
  rw [laws_FnGalois.g23, e k (by omega), lift_eq z n (by omega) m k (by omega), specLift_eq z n (by omega) m k (by omega), if_neg (fun h => h rfl), cyclos5_eq z (by omega) _ _ k (by omega), decide_eq_true ⟨rfl, rfl⟩, Bool.not_true, cond_false, law_g40 z hc hb k (by omega)]
  by_cases c0 : (lift3 n x m).2.2 = 0
  · rw [if_pos c0, isInField_eq z _ (by omega) _ k (by omega), lift3_kept c0, if_neg (fun h => h rfl)]
    rfl
  · rw [if_neg c0]
theorem law_g10 {c : List Int} (hc : c.length ≤ 4096) (hb : ∀ x ∈ c, 0 ≤ x ∧ x ≤ 255) {K0 : Bool → A} (k : Nat) (hk : 6002 ≤ k) : laws_FnGalois.g10 z k c K0 = K0 true := by
  obtain ⟨k, rfl, hk⟩ := up (show 6001 + 1 ≤ k by omega)
  obtain ⟨n, x, l, e⟩ := drawConjugate_eq z hc hb
  have hl := bar3_len (n := n) (x := x)
  rw [laws_FnGalois.g10, e k (by omega), conjugate_eq z n (by omega) k (by omega), specConjugate_eq z n (by omega) k (by omega), if_neg (fun h => h rfl), cyclos5_eq z (by omega) _ _ k (by omega), decide_eq_true ⟨rfl, rfl⟩, Bool.not_true, cond_false, law_g23 z hc hb k (by omega)]
  by_cases c0 : (bar3 n x).2.2 = 0
  · have hl2 := add3_len (m := n) (n := (bar3 n x).1) (x := x) (y := (bar3 n x).2.1) (v := 1)
    rw [if_pos c0, conjugate_eq z _ (by omega) k (by omega), add_eq z _ _ (by omega) (by omega) _ k (by omega), bar_kept c0, if_neg (fun h => h rfl), cyclos5_eq z (a := x) (b := x) (by omega) n n k (by omega), decide_eq_true ⟨rfl, rfl⟩, Bool.not_true, cond_false]
    by_cases c1 : (add3 n x (bar3 n x).1 (bar3 n x).2.1 1).2.2 = 0
    · rw [if_pos c1, isReal_eq z _ (by omega) k (by omega), plus_kept c0 c1, if_neg (fun h => h rfl)]
      rfl
    · rw [if_neg c1]
  · rw [if_neg c0]
/-- The law answers true. -/
theorem law_eq {c : List Int} (hb : ∀ x ∈ c, 0 ≤ x ∧ x ≤ 255) (k : Nat) (hk : 6003 ≤ k) (Φ : Bool → A) : laws_FnGalois z k c Φ = Φ true := by
  obtain ⟨k, rfl⟩ := le_ex (show 2 ≤ k by omega)
  simp only [laws_FnGalois, laws_big, step_succ]
  by_cases hc : c.length ≤ 4096
  · rw [decide_eq_false (by omega), cond_false]
    obtain ⟨n, x, a, l, e⟩ := drawGalois_eq z hc hb
    have hl := gal3_len (n := n) (x := x) (a := a)
    rw [e _ (by omega), galoisImage_eq z n (by omega) a _ (by omega), specGaloisImage_eq z n (by omega) a _ (by omega), if_neg (fun h => h rfl), cyclos5_eq z (by omega) _ _ _ (by omega), decide_eq_true ⟨rfl, rfl⟩, Bool.not_true, cond_false, law_g10 z hc hb _ (by omega)]
    by_cases c0 : (gal3 n x a).2.2 = 0
    · have l1 := mul3_len (m := n) (n := n) (x := x) (y := x)
      have l2 := gal3_len (n := (mul3 n x n x).1) (x := (mul3 n x n x).2.1) (a := a)
      have l3 := mul3_len (m := (gal3 n x a).1) (n := (gal3 n x a).1) (x := (gal3 n x a).2.1) (y := (gal3 n x a).2.1)
      rw [if_pos c0, multiply_eq z _ _ (by omega) (by omega) _ (by omega), galoisImage_eq z _ (by omega) _ _ (by omega), multiply_eq z _ _ (by omega) (by omega) _ (by omega)]
      by_cases c1 : (mul3 n x n x).2.2 = 0
      · rw [if_pos c1]
        by_cases c2 : (gal3 (mul3 n x n x).1 (mul3 n x n x).2.1 a).2.2 = 0
        · rw [if_pos c2]
          by_cases c3 : (mul3 (gal3 n x a).1 (gal3 n x a).2.1 (gal3 n x a).1 (gal3 n x a).2.1).2.2 = 0
          · rw [if_pos c3, cyclos5_eq z (by omega) _ _ _ (by omega), decide_eq_true (square_kept c0 c1 c2 c3)]
            rfl
          · rw [if_neg c3]
        · rw [if_neg c2]
      · rw [if_neg c1]
    · rw [if_neg c0]
  · rw [decide_eq_true (by omega), cond_true]
end
end Go.Proofs.Ytdnpkbhapdkikaa.F
