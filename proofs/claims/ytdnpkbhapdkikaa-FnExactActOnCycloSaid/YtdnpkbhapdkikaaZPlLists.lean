/- Plain facts on lists of whole numbers and on loops counted by rounds: no program in sight. -/
import Derived.Test.YtdnpkbhapdkikaaZWWords
import Derived.Test.YtdnpkbhapdkikaaZWMore
set_option linter.unusedVariables false
set_option linter.unusedSimpArgs false
namespace Go.Proofs.Ytdnpkbhapdkikaa.Plain
open Go.RowKit Go.Proofs.YtdnpkbhapdkikaaW.PrintWords Go.Proofs.YtdnpkbhapdkikaaW.PrintMore

theorem wrap_id {x : Int} (h0 : -9223372036854775808 ≤ x) (h1 : x ≤ 9223372036854775807) : wrap64 x = x := by
  unfold wrap64; omega

theorem wrap_idx (i : Nat) (h : i < 4611686018427387904) : wrap64 ((i : Int) + 1) = ((i + 1 : Nat) : Int) := by
  unfold wrap64; omega

theorem rd_nat (l : List Int) (i : Nat) (h : i < l.length) : rd l (i : Int) = l[i] := by
  unfold rd; simp [h]

theorem drop_at (l : List Int) (i : Nat) (h : i < l.length) : l.drop i = rd l (i : Int) :: l.drop (i + 1) := by
  rw [rd_nat l i h]; exact List.drop_eq_getElem_cons h

theorem ev_bind1 {α β : Type} {g : Nat → Option α} {f : Nat → α → Option β} {a : α} {r : β} (h : Ev g a) (k : Ev (fun n => f n a) r) : Ev (fun n => (g n).bind (f n)) r := Ev.bind h k

theorem ev_some {α β : Type} {a : α} {f : Nat → α → Option β} {r : β} (k : Ev (fun n => f n a) r) : Ev (fun n => (some a).bind (f n)) r := k

theorem ev_const {α : Type} {x : Option α} {r : α} (h : x = some r) : Ev (fun _ => x) r := by subst h; exact Ev.now r

theorem ev_ifp {α : Type} {c : Prop} [Decidable c] {f g : Nat → Option α} {r : α} (hc : c) (h : Ev f r) : Ev (fun k => if c then f k else g k) r :=
  Ev.congr (fun k => if_pos hc) h
theorem ev_ifn {α : Type} {c : Prop} [Decidable c] {f g : Nat → Option α} {r : α} (hc : ¬ c) (h : Ev g r) : Ev (fun k => if c then f k else g k) r :=
  Ev.congr (fun k => if_neg hc) h

/-- m, m + 1, .. : d numbers. -/
def iot (m : Int) : Nat → List Int
  | 0 => []
  | d + 1 => m :: iot (m + 1) d
theorem iot_length (m : Int) (d : Nat) : (iot m d).length = d := by
  induction d generalizing m with
  | zero => rfl
  | succ d ih => simp [iot, ih]

/-- The numbers a, a + 1, .., n. -/
def upto (a n : Int) : List Int := iot a (n + 1 - a).toNat
theorem upto_cons {a n : Int} (h : a ≤ n) : upto a n = a :: upto (a + 1) n := by
  unfold upto
  have : (n + 1 - a).toNat = (n + 1 - (a + 1)).toNat + 1 := by omega
  rw [this]; rfl
theorem upto_nil {a n : Int} (h : n < a) : upto a n = [] := by
  unfold upto
  have : (n + 1 - a).toNat = 0 := by omega
  rw [this]; rfl
theorem mem_iot {x m : Int} {d : Nat} : x ∈ iot m d ↔ m ≤ x ∧ x < m + d := by
  induction d generalizing m with
  | zero => simp only [iot, List.not_mem_nil, false_iff]; omega
  | succ d ih => simp only [iot, List.mem_cons, ih]; omega
theorem mem_upto {x a n : Int} : x ∈ upto a n ↔ a ≤ x ∧ x ≤ n := by
  unfold upto; rw [mem_iot]; omega
theorem upto_length (a n : Int) : (upto a n).length = (n + 1 - a).toNat := iot_length _ _

/-- The numbers 1 to n without a common divisor with n. -/
def unitsL (n : Int) : List Int := (upto 1 n).filter (fun a => decide ((Int.gcd a n : Int) = 1))
def unitsFrom (a n : Int) : List Int := (upto a n).filter (fun a => decide ((Int.gcd a n : Int) = 1))
theorem unitsFrom_one (n : Int) : unitsFrom 1 n = unitsL n := rfl
theorem unitsFrom_length (a n : Int) : (unitsFrom a n).length ≤ (n + 1 - a).toNat := by
  unfold unitsFrom
  exact Nat.le_trans (List.length_filter_le _ _) (Nat.le_of_eq (upto_length a n))

theorem unitsL_length (n : Int) : (unitsL n).length ≤ n.toNat := by
  have := unitsFrom_length 1 n
  rw [unitsFrom_one] at this
  omega

/-- A sum as the code adds it up. -/
def wsum (a : Int) (l : List Int) : Int := l.foldl (fun s x => wrap64 (s + x)) a
/-- Are all parts small enough? -/
def smallL (l : List Int) : Bool := l.all fun x => decide (-1000000000 ≤ x ∧ x ≤ 1000000000)
/-- Is this an element of a group ring? -/
def ringB (m : Int) (l : List Int) : Bool := decide (2 ≤ m ∧ m ≤ 40) && (decide (l.length = (unitsL m).length) && smallL l)
theorem ringB_len {m : Int} {l : List Int} (h : ringB m l = true) : 2 ≤ m ∧ m ≤ 40 ∧ l.length = (unitsL m).length ∧ smallL l = true := by
  simpa [ringB, and_assoc] using h

/-- Is this a number of a field? -/
def cycloB (n : Int) (l : List Int) : Bool := decide (1 ≤ n ∧ n ≤ 16) && (decide (l.length = (unitsL n).length) && smallL l)
theorem cycloB_len {n : Int} {l : List Int} (h : cycloB n l = true) : 1 ≤ n ∧ n ≤ 16 ∧ l.length = (unitsL n).length ∧ smallL l = true := by
  simpa [cycloB, and_assoc] using h
def primes61 : List Int := [3, 5, 7, 11, 13, 17, 19, 23, 29, 31, 37, 41, 43, 47, 53, 59, 61]
def primeB (p : Int) : Bool := primes61.contains p
theorem primeB_range {p : Int} (h : primeB p = true) : 3 ≤ p ∧ p ≤ 61 := by
  simp [primeB, primes61] at h; omega
/-- Can characters have this prime and this order? -/
def areOfB (p n : Int) : Bool := primeB p && (decide (1 ≤ n ∧ n ≤ 16) && decide (Int.tmod (p - 1) n = 0))
def charB (p n k : Int) : Bool := areOfB p n && decide (0 ≤ k ∧ k ≤ n - 1)

theorem gcd_tmod (a b : Int) (ha : 0 ≤ a) (hb : 0 < b) : Int.gcd b (Int.tmod a b) = Int.gcd a b := by
  rw [Int.tmod_eq_emod_of_nonneg ha]
  unfold Int.gcd
  rw [Int.natAbs_emod_of_nonneg ha, Nat.gcd_comm b.natAbs, ← Nat.gcd_rec, Nat.gcd_comm]

end Go.Proofs.Ytdnpkbhapdkikaa.Plain
