/- Whole numbers in floats of 64 bits: what a word stands for, how it is rounded, sums and products. -/
import Ieee.Arith
set_option linter.unusedVariables false
namespace Go.Proofs.Ytdnpkbhapdkikaa.Plain.Fl
open Ieee
/-- The number mag * 2 ^ place (with its sign) is the whole number n. -/
def Val (neg : Bool) (mag : Nat) (place : Int) (n : Int) : Prop := signed neg mag place.toNat = n * 2 ^ (-place).toNat
/-- The word b stands for the whole number n. -/
def Is (b : Nat) (n : Int) : Prop := ∃ neg mag place, double.read b = .number neg mag place ∧ Val neg mag place n
def sg (neg : Bool) : Int := if neg then -1 else 1
theorem signed_eq (neg : Bool) (mag up : Nat) : signed neg mag up = sg neg * (mag : Int) * 2 ^ up := by
  unfold signed sg
  rw [Nat.shiftLeft_eq]
  cases neg <;> simp [Int.neg_mul]
theorem val_at {neg : Bool} {mag : Nat} {place n : Int} (h : Val neg mag place n) (base : Int) (hb : base ≤ place) (hb0 : base ≤ 0) : signed neg mag (place - base).toNat = n * 2 ^ (-base).toNat := by
  unfold Val at h
  rw [signed_eq] at h ⊢
  rcases Int.le_total 0 place with hp | hp
  · have e1 : (place - base).toNat = place.toNat + (-base).toNat := by omega
    have e2 : (-place).toNat = 0 := by omega
    rw [e2, Int.pow_zero, Int.mul_one] at h
    rw [e1, Int.pow_add, ← Int.mul_assoc, h]
  · have e1 : place.toNat = 0 := by omega
    have e2 : (-base).toNat = (-place).toNat + (place - base).toNat := by omega
    rw [e1, Int.pow_zero, Int.mul_one] at h
    rw [h, e2, Int.pow_add, Int.mul_assoc]
theorem dS : double.signWeight = 9223372036854775808 := by decide
theorem dB : double.binade = 4503599627370496 := by decide
theorem dI : double.infRung = 9218868437227405312 := by decide
theorem dL : double.leastPlace = -1074 := by decide
theorem is_zero : Is 0 0 := ⟨false, 0, -1074, by (rw [← dL]; rfl), by unfold Val; rw [signed_eq, show ((0 : Nat) : Int) = 0 from rfl, Int.mul_zero, Int.zero_mul, Int.zero_mul]⟩
theorem read_word (neg : Bool) (r : Nat) (h1 : 4503599627370496 ≤ r) (h2 : r < 9218868437227405312) :
    double.read (double.word neg r) = .number neg (4503599627370496 + r % 4503599627370496) (-1074 + ((r / 4503599627370496 - 1 : Nat) : Int)) := by
  unfold Format.read Format.word
  simp only [dS, dB, dI, dL]
  cases neg
  · have e1 : r / 9223372036854775808 = 0 := by omega
    have e2 : r % 9223372036854775808 = r := by omega
    simp only [Bool.false_eq_true, if_false, e1, e2]
    rw [if_neg (by omega), if_pos h2]; rfl
  · have e1 : (9223372036854775808 + r) / 9223372036854775808 = 1 := by omega
    have e2 : (9223372036854775808 + r) % 9223372036854775808 = r := by omega
    simp only [if_true, e1, e2]
    rw [if_neg (by omega), if_pos h2]; rfl
theorem cut_even (neg : Bool) (n d : Nat) (h : d ≤ n.log2) : ∃ e, e ≤ 1 ∧ Toward.even.cut neg n d = n / 2 ^ d + e ∧ (n % 2 ^ d = 0 → e = 0) := by
  unfold Toward.cut
  have e1 : min d (n.log2 + 2) = d := by omega
  simp only [e1, Nat.one_shiftLeft]
  refine ⟨_, ?_, rfl, ?_⟩
  · exact Bool.toNat_le _
  · intro h0
    simp [h0]
theorem near_form (neg : Bool) (mag : Nat) (place : Int) (hm : mag ≠ 0) (hl : 0 ≤ place + (mag.log2 : Int)) (hu : place + (mag.log2 : Int) < 90) :
    ∃ kept, 4503599627370496 ≤ kept ∧ kept ≤ 9007199254740992 ∧ double.nearest neg mag place = double.word neg ((place + mag.log2 - 52 + 1074).toNat * 4503599627370496 + kept) ∧
      (52 ≤ mag.log2 → ∃ e, e ≤ 1 ∧ kept = mag / 2 ^ (mag.log2 - 52) + e ∧ (mag % 2 ^ (mag.log2 - 52) = 0 → e = 0)) ∧ (mag.log2 < 52 → kept = mag * 2 ^ (52 - mag.log2)) := by
  have h1 := Nat.log2_self_le hm
  have h2 := @Nat.lt_log2_self mag
  have hf : double.fractionBits = 52 := rfl
  have hlast : max (place + (mag.log2 : Int) - 52) (-1074) = place + mag.log2 - 52 := by omega
  have hne : double.nearest neg mag place = double.word neg (min ((place + mag.log2 - 52 + 1074).toNat * 4503599627370496 + Toward.even.cut neg (mag <<< (place - (place + mag.log2 - 52)).toNat) ((place + mag.log2 - 52) - place).toNat) 9218868437227405312) := by
    unfold Format.nearest
    rw [if_neg hm]
    simp only [hf, dL, dB, dI]
    have : max (place + (mag.log2 : Int) - ((52 : Nat) : Int)) (-1074) = place + mag.log2 - 52 := by omega
    rw [this]
    have : (place + (mag.log2 : Int) - 52 - -1074) = place + mag.log2 - 52 + 1074 := by omega
    rw [this]
  rcases Nat.lt_or_ge mag.log2 52 with hL | hL
  · have e1 : (place - (place + (mag.log2 : Int) - 52)).toNat = 52 - mag.log2 := by omega
    have e2 : ((place + (mag.log2 : Int) - 52) - place).toNat = 0 := by omega
    obtain ⟨e, _, he, hz⟩ := cut_even neg (mag <<< (52 - mag.log2)) 0 (Nat.zero_le _)
    have hz' := hz (by rw [Nat.pow_zero, Nat.mod_one])
    subst hz'
    rw [Nat.pow_zero, Nat.div_one, Nat.add_zero, Nat.shiftLeft_eq] at he
    have k1 : 4503599627370496 ≤ mag * 2 ^ (52 - mag.log2) := by
      have : 2 ^ mag.log2 * 2 ^ (52 - mag.log2) = 4503599627370496 := by rw [← Nat.pow_add, show mag.log2 + (52 - mag.log2) = 52 by omega]
      rw [← this]; exact Nat.mul_le_mul_right _ h1
    have k2 : mag * 2 ^ (52 - mag.log2) ≤ 9007199254740992 := by
      have : 2 ^ (mag.log2 + 1) * 2 ^ (52 - mag.log2) = 9007199254740992 := by rw [← Nat.pow_add, show mag.log2 + 1 + (52 - mag.log2) = 53 by omega]
      rw [← this]; exact Nat.mul_le_mul_right _ (Nat.le_of_lt h2)
    refine ⟨_, k1, k2, ?_, fun h => by omega, fun _ => rfl⟩
    rw [hne, e1, e2, Nat.shiftLeft_eq, he, Nat.min_eq_left (by omega)]
  · have e1 : (place - (place + (mag.log2 : Int) - 52)).toNat = 0 := by omega
    have e2 : ((place + (mag.log2 : Int) - 52) - place).toNat = mag.log2 - 52 := by omega
    obtain ⟨e, he1, he, hz⟩ := cut_even neg mag (mag.log2 - 52) (by omega)
    have hp := Nat.two_pow_pos (mag.log2 - 52)
    have k1 : 4503599627370496 ≤ mag / 2 ^ (mag.log2 - 52) := by
      rw [Nat.le_div_iff_mul_le hp, show 4503599627370496 = 2 ^ 52 from rfl, ← Nat.pow_add, show 52 + (mag.log2 - 52) = mag.log2 by omega]; exact h1
    have k2 : mag / 2 ^ (mag.log2 - 52) < 9007199254740992 := by
      rw [Nat.div_lt_iff_lt_mul hp, show 9007199254740992 = 2 ^ 53 from rfl, ← Nat.pow_add, show 53 + (mag.log2 - 52) = mag.log2 + 1 by omega]; exact h2
    refine ⟨mag / 2 ^ (mag.log2 - 52) + e, by omega, by omega, ?_, fun _ => ⟨e, he1, rfl, hz⟩, fun h => by omega⟩
    rw [hne, e1, e2, Nat.shiftLeft_zero, he, Nat.min_eq_left (by omega)]
theorem sg_sq (neg : Bool) : sg neg * sg neg = 1 := by cases neg <;> rfl
theorem val_form {neg : Bool} {mag : Nat} {place n : Int} (h : Val neg mag place n) : n = sg neg * (n.natAbs : Int) ∨ n = 0 := by
  rcases Int.lt_trichotomy n 0 with h1 | h1 | h1
  · left
    unfold Val at h
    rw [signed_eq] at h
    have hq : (0 : Int) < 2 ^ (-place).toNat := Int.pow_pos (by decide)
    have : n * 2 ^ (-place).toNat < 0 := Int.mul_neg_of_neg_of_pos h1 hq
    cases neg
    · exfalso
      have h2 : (0 : Int) ≤ sg false * (mag : Int) * 2 ^ place.toNat := Int.mul_nonneg (by simp [sg]) (Int.le_of_lt (Int.pow_pos (by decide)))
      omega
    · simp only [sg, if_true]; omega
  · right; exact h1
  · left
    unfold Val at h
    rw [signed_eq] at h
    have hq : (0 : Int) < 2 ^ (-place).toNat := Int.pow_pos (by decide)
    have : 0 < n * 2 ^ (-place).toNat := Int.mul_pos h1 hq
    cases neg
    · simp only [sg, Bool.false_eq_true, if_false]; omega
    · exfalso
      have h2 : (0 : Int) ≤ (mag : Int) * 2 ^ place.toNat := Int.mul_nonneg (by omega) (Int.le_of_lt (Int.pow_pos (by decide)))
      have h3 : sg true * (mag : Int) * 2 ^ place.toNat = -((mag : Int) * 2 ^ place.toNat) := by simp [sg, Int.neg_mul]
      omega
theorem val_nat {neg : Bool} {mag : Nat} {place n : Int} (h : Val neg mag place n) : mag * 2 ^ place.toNat = n.natAbs * 2 ^ (-place).toNat := by
  unfold Val at h
  rw [signed_eq] at h
  have := congrArg Int.natAbs h
  rw [Int.natAbs_mul, Int.natAbs_mul, Int.natAbs_mul, Int.natAbs_pow, Int.natAbs_pow] at this
  have hs : (sg neg).natAbs = 1 := by cases neg <;> rfl
  rw [hs, Nat.one_mul] at this
  exact this
/-- The value of kept units of place last, as it reads. -/
theorem reads (neg : Bool) (last : Int) (kept : Nat) (h1 : 4503599627370496 ≤ kept) (h2 : kept ≤ 9007199254740992) (hl : -52 ≤ last) (hu : last < 40) (n : Int)
    (hv : sg neg * (kept : Int) * 2 ^ last.toNat = n * 2 ^ (-last).toNat) : Is (double.word neg ((last + 1074).toNat * 4503599627370496 + kept)) n := by
  have hr := read_word neg ((last + 1074).toNat * 4503599627370496 + kept) (by omega) (by omega)
  rcases Nat.lt_or_ge kept 9007199254740992 with hk | hk
  · have e1 : 4503599627370496 + ((last + 1074).toNat * 4503599627370496 + kept) % 4503599627370496 = kept := by omega
    have e2 : (-1074 + (((((last + 1074).toNat * 4503599627370496 + kept) / 4503599627370496 - 1 : Nat) : Nat) : Int)) = last := by omega
    rw [e1, e2] at hr
    exact ⟨neg, kept, last, hr, by unfold Val; rw [signed_eq]; exact hv⟩
  · have hk' : kept = 9007199254740992 := by omega
    subst hk'
    have e1 : 4503599627370496 + ((last + 1074).toNat * 4503599627370496 + 9007199254740992) % 4503599627370496 = 4503599627370496 := by omega
    have e2 : (-1074 + (((((last + 1074).toNat * 4503599627370496 + 9007199254740992) / 4503599627370496 - 1 : Nat) : Nat) : Int)) = last + 1 := by omega
    rw [e1, e2] at hr
    refine ⟨neg, _, _, hr, ?_⟩
    unfold Val
    rw [signed_eq]
    rcases Int.lt_or_le last 0 with h0 | h0
    · have a1 : last.toNat = 0 := by omega
      have a2 : (last + 1).toNat = 0 := by omega
      have a3 : (-last).toNat = (-(last + 1)).toNat + 1 := by omega
      rw [a1, a3, Int.pow_succ, Int.pow_zero, Int.mul_one, ← Int.mul_assoc] at hv
      rw [a2, Int.pow_zero, Int.mul_one]
      omega
    · have a1 : (last + 1).toNat = last.toNat + 1 := by omega
      have a3 : (-last).toNat = 0 := by omega
      have a4 : (-(last + 1)).toNat = 0 := by omega
      rw [a3, Int.pow_zero, Int.mul_one] at hv
      rw [a1, a4, Int.pow_succ, Int.pow_zero, Int.mul_one, ← hv, Int.mul_comm (2 ^ last.toNat) 2, ← Int.mul_assoc, Int.mul_assoc (sg neg) _ 2]
      rfl
theorem pow_lt (a : Nat) (h : (2 : Nat) ^ a < 2 ^ 90) : a < 90 := (Nat.pow_lt_pow_iff_right (by decide)).1 h
/-- Rounding: a whole number of a size below 2 ^ 90 goes to a whole number at most 2 ^ 40 away; one below 2 ^ 53 to itself. -/
theorem rounds (neg : Bool) (mag : Nat) (place n : Int) (h : Val neg mag place n) (hn : n.natAbs < 2 ^ 90) :
    ∃ n' : Int, Is (double.nearest neg mag place) n' ∧ (n' - n).natAbs ≤ 2 ^ 40 ∧ (n.natAbs < 2 ^ 53 → n' = n) := by
  have hN := val_nat h
  have hS := val_form h
  have hq0 := Nat.two_pow_pos (-place).toNat
  have hp0 := Nat.two_pow_pos place.toNat
  by_cases hm : mag = 0
  · subst hm
    have hz : n.natAbs = 0 := by
      rw [Nat.zero_mul] at hN
      rcases Nat.mul_eq_zero.1 hN.symm with h | h
      · exact h
      · omega
    obtain rfl : n = 0 := by omega
    refine ⟨0, ?_, by decide, fun _ => rfl⟩
    unfold Format.nearest
    rw [if_pos rfl]
    refine ⟨neg, 0, -1074, ?_, by unfold Val; rw [signed_eq, show ((0 : Nat) : Int) = 0 from rfl, Int.mul_zero, Int.zero_mul, Int.zero_mul]⟩
    cases neg <;> decide
  have hn0 : n.natAbs ≠ 0 := by
    intro h0
    rw [h0, Nat.zero_mul] at hN
    rcases Nat.mul_eq_zero.1 hN with h | h
    · exact hm h
    · omega
  have hS' : n = sg neg * (n.natAbs : Int) := by rcases hS with h | h; exact h; omega
  obtain ⟨m, hmm⟩ : ∃ m, m = n.natAbs := ⟨_, rfl⟩
  rw [← hmm] at hN hn hn0 hS' ⊢
  obtain ⟨L, hLL⟩ : ∃ L, L = mag.log2 := ⟨_, rfl⟩
  have l1 : 2 ^ L ≤ mag := by rw [hLL]; exact Nat.log2_self_le hm
  have hl : 0 ≤ place + (L : Int) := by
    rcases Int.le_total 0 place with h | h
    · omega
    · have a1 : place.toNat = 0 := by omega
      rw [a1, Nat.pow_zero, Nat.mul_one] at hN
      have : (-place).toNat ≤ L := by
        rw [hLL, Nat.le_log2 hm, hN]; exact Nat.le_mul_of_pos_left _ (by omega)
      omega
  have hu : place + (L : Int) < 90 := by
    rcases Int.le_total 0 place with h | h
    · have a1 : (-place).toNat = 0 := by omega
      rw [a1, Nat.pow_zero, Nat.mul_one] at hN
      have : 2 ^ (L + place.toNat) < 2 ^ 90 := by
        rw [Nat.pow_add]; exact Nat.lt_of_le_of_lt (Nat.mul_le_mul_right _ l1) (by rw [hN]; exact hn)
      have := pow_lt _ this
      omega
    · have a1 : place.toNat = 0 := by omega
      rw [a1, Nat.pow_zero, Nat.mul_one] at hN
      have : 2 ^ L < 2 ^ (90 + (-place).toNat) := by
        rw [Nat.pow_add]; exact Nat.lt_of_le_of_lt l1 (by rw [hN]; exact Nat.mul_lt_mul_of_pos_right hn hq0)
      have := (Nat.pow_lt_pow_iff_right (by decide : 1 < 2)).1 this
      omega
  obtain ⟨kept, k1, k2, hne, hA, hB⟩ := near_form neg mag place hm (by omega) (by omega)
  rw [← hLL] at hne hA hB
  obtain ⟨last, hlast⟩ : ∃ last : Int, last = place + L - 52 := ⟨_, rfl⟩
  have e0 : place + (L : Int) - 52 + 1074 = last + 1074 := by omega
  rw [e0] at hne
  rw [hne]
  rcases (by omega : last ≤ 0 ∨ 0 < last) with hl0 | hl0
  · -- exact
    have hk : kept = m * 2 ^ (-last).toNat := by
      rcases Nat.lt_or_ge L 52 with hc | hc
      · rw [hB hc]
        rcases Int.le_total 0 place with h | h
        · have a1 : (-place).toNat = 0 := by omega
          rw [a1, Nat.pow_zero, Nat.mul_one] at hN
          rw [← hN, Nat.mul_assoc, ← Nat.pow_add]; congr 2; omega
        · have a1 : place.toNat = 0 := by omega
          rw [a1, Nat.pow_zero, Nat.mul_one] at hN
          rw [hN, Nat.mul_assoc, ← Nat.pow_add]; congr 2; omega
      · obtain ⟨e, _, he, hz⟩ := hA hc
        have a1 : place.toNat = 0 := by omega
        rw [a1, Nat.pow_zero, Nat.mul_one] at hN
        have a2 : (-place).toNat = (-last).toNat + (L - 52) := by omega
        rw [a2, Nat.pow_add, ← Nat.mul_assoc] at hN
        have := hz (by rw [hN]; exact Nat.mul_mod_left _ _)
        rw [he, this, hN, Nat.mul_div_cancel _ (Nat.two_pow_pos _), Nat.add_zero]
    refine ⟨n, reads neg last kept k1 k2 (by omega) (by omega) n ?_, by simp, fun _ => rfl⟩
    have a1 : last.toNat = 0 := by omega
    rw [a1, Int.pow_zero, Int.mul_one, hk, hS', Int.natCast_mul, Int.natCast_pow, ← Int.mul_assoc]; rfl
  · have hlt := Nat.two_pow_pos last.toNat
    have hdiff : (kept : Int) * 2 ^ last.toNat - (m : Int) ≤ 2 ^ last.toNat ∧ (m : Int) - (kept : Int) * 2 ^ last.toNat ≤ 2 ^ last.toNat := by
      have key : kept * 2 ^ last.toNat ≤ m + 2 ^ last.toNat ∧ m ≤ kept * 2 ^ last.toNat + 2 ^ last.toNat := by
        rcases Nat.lt_or_ge L 52 with hc | hc
        · have a1 : (-place).toNat = 0 := by omega
          rw [a1, Nat.pow_zero, Nat.mul_one] at hN
          have : kept * 2 ^ last.toNat = m := by
            rw [hB hc, ← hN, Nat.mul_assoc, ← Nat.pow_add]; congr 2; omega
          omega
        · obtain ⟨e, he1, he, _⟩ := hA hc
          have hd := Nat.two_pow_pos (L - 52)
          have hdm := Nat.div_add_mod mag (2 ^ (L - 52))
          have hr := Nat.mod_lt mag hd
          rcases Int.le_total 0 place with h | h
          · have a1 : (-place).toNat = 0 := by omega
            rw [a1, Nat.pow_zero, Nat.mul_one] at hN
            have a2 : last.toNat = (L - 52) + place.toNat := by omega
            have b1 : kept * 2 ^ last.toNat = (mag / 2 ^ (L - 52)) * 2 ^ (L - 52) * 2 ^ place.toNat + e * (2 ^ (L - 52) * 2 ^ place.toNat) := by
              rw [he, a2, Nat.pow_add, Nat.add_mul, ← Nat.mul_assoc]
            have b2 : m = (mag / 2 ^ (L - 52)) * 2 ^ (L - 52) * 2 ^ place.toNat + (mag % 2 ^ (L - 52)) * 2 ^ place.toNat := by
              rw [← Nat.add_mul, Nat.mul_comm (mag / 2 ^ (L - 52)), hdm, hN]
            have b3 : 2 ^ last.toNat = 2 ^ (L - 52) * 2 ^ place.toNat := by rw [a2, Nat.pow_add]
            have b4 : (mag % 2 ^ (L - 52)) * 2 ^ place.toNat ≤ 2 ^ (L - 52) * 2 ^ place.toNat := Nat.mul_le_mul_right _ (Nat.le_of_lt hr)
            have b5 : e * (2 ^ (L - 52) * 2 ^ place.toNat) ≤ 2 ^ (L - 52) * 2 ^ place.toNat := by
              have := Nat.mul_le_mul_right (2 ^ (L - 52) * 2 ^ place.toNat) he1
              rwa [Nat.one_mul] at this
            rw [b1, b3]; omega
          · have a1 : place.toNat = 0 := by omega
            rw [a1, Nat.pow_zero, Nat.mul_one] at hN
            have a2 : L - 52 = last.toNat + (-place).toNat := by omega
            have b3 : 2 ^ (L - 52) = 2 ^ last.toNat * 2 ^ (-place).toNat := by rw [a2, Nat.pow_add]
            have b1 : kept * 2 ^ last.toNat * 2 ^ (-place).toNat = (mag / 2 ^ (L - 52)) * 2 ^ (L - 52) + e * 2 ^ (L - 52) := by
              rw [he, b3, Nat.mul_assoc, Nat.add_mul]
            have b2 : m * 2 ^ (-place).toNat = (mag / 2 ^ (L - 52)) * 2 ^ (L - 52) + mag % 2 ^ (L - 52) := by
              rw [Nat.mul_comm (mag / 2 ^ (L - 52)), hdm, hN]
            have b5 : e * 2 ^ (L - 52) ≤ 2 ^ (L - 52) := by
              have := Nat.mul_le_mul_right (2 ^ (L - 52)) he1
              rwa [Nat.one_mul] at this
            constructor
            · refine Nat.le_of_mul_le_mul_right ?_ hq0
              rw [b1, Nat.add_mul, b2, ← b3]; omega
            · refine Nat.le_of_mul_le_mul_right ?_ hq0
              rw [b2, Nat.add_mul, b1, ← b3]; omega
      have c1 := key.1
      have c2 := key.2
      have d1 : ((kept * 2 ^ last.toNat : Nat) : Int) = (kept : Int) * 2 ^ last.toNat := by rw [Int.natCast_mul, Int.natCast_pow]; rfl
      have d2 : ((2 ^ last.toNat : Nat) : Int) = 2 ^ last.toNat := by rw [Int.natCast_pow]; rfl
      omega
    have hbig : (2 : Int) ^ last.toNat ≤ 2 ^ 40 := by
      have : (2 : Nat) ^ last.toNat ≤ 2 ^ 40 := Nat.pow_le_pow_right (by decide) (by omega)
      have d2 : ((2 ^ last.toNat : Nat) : Int) = 2 ^ last.toNat := by rw [Int.natCast_pow]; rfl
      omega
    refine ⟨sg neg * ((kept : Int) * 2 ^ last.toNat), reads neg last kept k1 k2 (by omega) (by omega) _ ?_, ?_, ?_⟩
    · have a3 : (-last).toNat = 0 := by omega
      rw [a3, Int.pow_zero, Int.mul_one, Int.mul_assoc]
    · rw [hS', ← Int.mul_sub, Int.natAbs_mul]
      have hs : (sg neg).natAbs = 1 := by cases neg <;> rfl
      rw [hs, Nat.one_mul]
      omega
    · intro hsm
      exfalso
      -- a number below 2 ^ 53 has no place above 0
      have : 2 ^ (52 + last.toNat) ≤ m := by
        rcases Int.le_total 0 place with h | h
        · have a1 : (-place).toNat = 0 := by omega
          rw [a1, Nat.pow_zero, Nat.mul_one] at hN
          rw [← hN, show 52 + last.toNat = L + place.toNat by omega, Nat.pow_add]
          exact Nat.mul_le_mul_right _ l1
        · have a1 : place.toNat = 0 := by omega
          rw [a1, Nat.pow_zero, Nat.mul_one] at hN
          refine Nat.le_of_mul_le_mul_right ?_ hq0
          rw [← hN, ← Nat.pow_add, show 52 + last.toNat + (-place).toNat = L by omega]
          exact l1
      have h53 : 2 ^ 53 ≤ 2 ^ (52 + last.toNat) := Nat.pow_le_pow_right (by decide) (by omega)
      omega
theorem read_range {b : Nat} {neg : Bool} {mag : Nat} {place : Int} (h : double.read b = .number neg mag place) : -1074 ≤ place := by
  unfold Format.read at h
  simp only [dS, dB, dI, dL] at h
  by_cases h1 : b % 9223372036854775808 < 4503599627370496
  · rw [if_pos h1] at h; injection h with _ _ h3; omega
  · rw [if_neg h1] at h
    by_cases h2 : b % 9223372036854775808 < 9218868437227405312
    · rw [if_pos h2] at h; injection h with _ _ h3; omega
    · rw [if_neg h2] at h
      by_cases h3 : b % 9223372036854775808 = 9218868437227405312
      · rw [if_pos h3] at h; cases h
      · rw [if_neg h3] at h; cases h
/-- total * 2 ^ base with its sign, base at most 0, is the whole number n. -/
theorem val_of (s : Bool) (total n : Int) (base : Int) (hb : base ≤ 0) (h : total = n * 2 ^ (-base).toNat) (hs : total ≠ 0 → s = decide (total < 0)) : Val s total.natAbs base n := by
  unfold Val
  rw [signed_eq, show base.toNat = 0 by omega, Int.pow_zero, Int.mul_one, ← h]
  by_cases h0 : total = 0
  · subst h0; simp
  · rw [hs h0]
    unfold sg
    by_cases h1 : total < 0
    · simp [h1]; omega
    · simp [h1]; omega
theorem is_sum {x y : Nat} {m n : Int} (hx : Is x m) (hy : Is y n) (hs : (m + n).natAbs < 2 ^ 90) : ∃ b n', double.add x y = some b ∧ Is b n' ∧ (n' - (m + n)).natAbs ≤ 2 ^ 40 := by
  obtain ⟨s, a, i, rx, vx⟩ := hx
  obtain ⟨t, c, j, ry, vy⟩ := hy
  unfold Format.add
  rw [rx, ry]
  obtain ⟨base, hbase⟩ : ∃ base : Int, base = min i j := ⟨_, rfl⟩
  simp only [Datum.sum, ← hbase, Option.map_some, Format.write]
  -- the same number with a place that is at most 0
  obtain ⟨total, htot⟩ : ∃ total : Int, total = signed s a (i - base).toNat + signed t c (j - base).toNat := ⟨_, rfl⟩
  rw [← htot]
  rcases (by omega : base ≤ 0 ∨ 0 < base) with hb | hb
  · have e1 := val_at vx base (by omega) hb
    have e2 := val_at vy base (by omega) hb
    rw [e1, e2, ← Int.add_mul] at htot
    obtain ⟨n', h1, h2, _⟩ := rounds _ _ base (m + n) (val_of (if total = 0 then s && t else decide (total < 0)) total (m + n) base hb htot (fun h => if_neg h)) hs
    exact ⟨_, n', rfl, h1, h2⟩
  · have hv : Val (if total = 0 then s && t else decide (total < 0)) total.natAbs base (m + n) := by
      unfold Val at vx vy ⊢
      rw [signed_eq] at vx vy ⊢
      rw [signed_eq, signed_eq] at htot
      rw [show (-i).toNat = 0 by omega, Int.pow_zero, Int.mul_one] at vx
      rw [show (-j).toNat = 0 by omega, Int.pow_zero, Int.mul_one] at vy
      rw [show (-base).toNat = 0 by omega, Int.pow_zero, Int.mul_one, ← vx, ← vy, show i.toNat = (i - base).toNat + base.toNat by omega, show j.toNat = (j - base).toNat + base.toNat by omega, Int.pow_add, Int.pow_add, ← Int.mul_assoc, ← Int.mul_assoc, ← Int.add_mul, ← htot]
      congr 1
      by_cases h0 : total = 0
      · rw [h0]; simp
      · rw [if_neg h0]
        unfold sg
        by_cases h1 : total < 0
        · simp [h1]; omega
        · simp [h1]; omega
    obtain ⟨n', h1, h2, _⟩ := rounds _ _ base (m + n) hv hs
    exact ⟨_, n', rfl, h1, h2⟩
theorem is_product {x y : Nat} {m n : Int} (hx : Is x m) (hy : Is y n) (hs : (m * n).natAbs < 2 ^ 90) : ∃ b n', double.mul x y = some b ∧ Is b n' ∧ (n' - m * n).natAbs ≤ 2 ^ 40 := by
  obtain ⟨s, a, i, rx, vx⟩ := hx
  obtain ⟨t, c, j, ry, vy⟩ := hy
  unfold Format.mul
  rw [rx, ry]
  simp only [Datum.product, Option.map_some, Format.write]
  have hv : Val (s ^^ t) (a * c) (i + j) (m * n) := by
    have sgx : sg (s ^^ t) = sg s * sg t := by cases s <;> cases t <;> rfl
    unfold Val at vx vy ⊢
    rw [signed_eq] at vx vy ⊢
    -- both sides times 2 ^ (what is lacking)
    obtain ⟨d, hd1, hd2⟩ : ∃ d : Nat, i.toNat + j.toNat = (i + j).toNat + d ∧ (-i).toNat + (-j).toNat = (-(i + j)).toNat + d := ⟨i.toNat + j.toNat - (i + j).toNat, by omega, by omega⟩
    have hp : (2 : Int) ^ d ≠ 0 := Int.ne_of_gt (Int.pow_pos (by decide))
    refine Int.eq_of_mul_eq_mul_right hp ?_
    have h : sg s * (a : Int) * 2 ^ i.toNat * (sg t * (c : Int) * 2 ^ j.toNat) = m * 2 ^ (-i).toNat * (n * 2 ^ (-j).toNat) := by rw [vx, vy]
    have e1 : sg s * (a : Int) * 2 ^ i.toNat * (sg t * (c : Int) * 2 ^ j.toNat) = sg s * sg t * ((a : Int) * (c : Int)) * (2 ^ i.toNat * 2 ^ j.toNat) := by ac_rfl
    have e2 : m * 2 ^ (-i).toNat * (n * 2 ^ (-j).toNat) = m * n * (2 ^ (-i).toNat * 2 ^ (-j).toNat) := by ac_rfl
    rw [e1, e2, ← Int.pow_add, ← Int.pow_add, hd1, hd2, Int.pow_add, Int.pow_add] at h
    rw [sgx, Int.natCast_mul, Int.mul_assoc _ (2 ^ (i + j).toNat) _, Int.mul_assoc _ (2 ^ (-(i + j)).toNat) _]
    exact h
  obtain ⟨n', h1, h2, _⟩ := rounds _ _ _ _ hv hs
  exact ⟨_, n', rfl, h1, h2⟩
theorem is_of_int (n : Int) (h : n.natAbs < 2 ^ 53) : Is (double.write (.number (n < 0) n.natAbs 0)) n := by
  have hv : Val (decide (n < 0)) n.natAbs 0 n := val_of _ n n 0 (by omega) (by simp) (fun _ => rfl)
  obtain ⟨n', h1, _, h3⟩ := rounds _ _ _ _ hv (Nat.lt_trans h (by decide))
  have := h3 h
  subst this
  exact h1
/-- How two whole numbers stand to each other. -/
theorem is_order {x y : Nat} {m n : Int} (hx : Is x m) (hy : Is y n) : double.order x y = some (compare m n) := by
  obtain ⟨s, a, i, rx, vx⟩ := hx
  obtain ⟨t, c, j, ry, vy⟩ := hy
  unfold Format.order
  rw [rx, ry]
  obtain ⟨base, hbase⟩ : ∃ base : Int, base = min i j := ⟨_, rfl⟩
  simp only [Datum.order, ← hbase]
  have key : ∀ (u v m n : Int) (p q : Int), 0 < p → 0 < q → u * q = m * p → v * q = n * p → compare u v = compare m n := by
    intro u v m n p q hp hq h1 h2
    have a1 : u < v ↔ m < n := by
      constructor
      · intro h
        have := Int.mul_lt_mul_of_pos_right h hq
        rw [h1, h2] at this
        exact Int.lt_of_mul_lt_mul_right this (Int.le_of_lt hp)
      · intro h
        have := Int.mul_lt_mul_of_pos_right h hp
        rw [← h1, ← h2] at this
        exact Int.lt_of_mul_lt_mul_right this (Int.le_of_lt hq)
    have a2 : u = v ↔ m = n := by
      constructor
      · intro h; subst h; exact Int.eq_of_mul_eq_mul_right (Int.ne_of_gt hp) (h1.symm.trans h2)
      · intro h; subst h; exact Int.eq_of_mul_eq_mul_right (Int.ne_of_gt hq) (h1.trans h2.symm)
    simp only [compare, compareOfLessAndEq, a1, a2]
  congr 1
  rcases (by omega : base ≤ 0 ∨ 0 < base) with hb | hb
  · have e1 := val_at vx base (by omega) hb
    have e2 := val_at vy base (by omega) hb
    exact key _ _ m n (2 ^ (-base).toNat) 1 (Int.pow_pos (by decide)) (by decide) (by rw [Int.mul_one, e1]) (by rw [Int.mul_one, e2])
  · unfold Val at vx vy
    rw [show (-i).toNat = 0 by omega, Int.pow_zero, Int.mul_one, signed_eq] at vx
    rw [show (-j).toNat = 0 by omega, Int.pow_zero, Int.mul_one, signed_eq] at vy
    refine key _ _ m n 1 (2 ^ base.toNat) (by decide) (Int.pow_pos (by decide)) ?_ ?_
    · rw [signed_eq, Int.mul_one, ← vx, show i.toNat = (i - base).toNat + base.toNat by omega, Int.pow_add, Int.mul_assoc]
    · rw [signed_eq, Int.mul_one, ← vy, show j.toNat = (j - base).toNat + base.toNat by omega, Int.pow_add, Int.mul_assoc]
end Go.Proofs.Ytdnpkbhapdkikaa.Plain.Fl
