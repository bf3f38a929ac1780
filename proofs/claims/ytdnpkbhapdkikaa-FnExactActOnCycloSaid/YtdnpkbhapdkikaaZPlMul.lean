/- Products of elements of a group ring, as the loops add them up: plain facts. -/
import Derived.Test.YtdnpkbhapdkikaaZPlInv
set_option linter.unusedVariables false
set_option linter.unusedSimpArgs false
namespace Go.Proofs.Ytdnpkbhapdkikaa.Plain
open Go.RowKit Go.Proofs.YtdnpkbhapdkikaaW.PrintWords Go.Proofs.YtdnpkbhapdkikaaW.PrintMore

theorem mul_all : (iot 2 39).all (fun n => (unitsL n).all fun a => (unitsL n).all fun b => (unitsL n).contains (a * b % n)) = true := by decide +kernel
theorem mul_unit {n a b : Int} (h2 : 2 ≤ n) (h40 : n ≤ 40) (ha : a ∈ unitsL n) (hb : b ∈ unitsL n) : a * b % n ∈ unitsL n := by
  have h := List.all_eq_true.1 mul_all n (mem_iot.2 (by omega))
  have h := List.all_eq_true.1 h a ha
  have h := List.all_eq_true.1 h b hb
  simpa using h
/-- The place of the product of the units at two places. -/
def mulPos (n : Int) (i k : Nat) : Nat := (unitsL n).idxOf (rd (unitsL n) i * rd (unitsL n) k % n)
def mulStep (n : Int) (x y : List Int) (i k : Nat) (o : List Int) : List Int := o.set (mulPos n i k) (wrap64 (rd o (mulPos n i k : Nat) + wrap64 (rd x i * rd y k)))
def mulIn (n : Int) (x y : List Int) (i k d : Nat) (o : List Int) : List Int := (List.range' k d).foldl (fun o k => mulStep n x y i k o) o
def mulOut (n : Int) (x y : List Int) (i d : Nat) (o : List Int) : List Int := (List.range' i d).foldl (fun o i => mulIn n x y i 0 (unitsL n).length o) o
theorem mulStep_length (n : Int) (x y : List Int) (i k : Nat) (o : List Int) : (mulStep n x y i k o).length = o.length := by unfold mulStep; simp
theorem mulIn_succ (n : Int) (x y : List Int) (i k d : Nat) (o : List Int) : mulIn n x y i k (d + 1) o = mulIn n x y i (k + 1) d (mulStep n x y i k o) := by
  unfold mulIn; rw [List.range'_succ, List.foldl_cons]
theorem mulIn_length (n : Int) (x y : List Int) (i : Nat) : ∀ (d k : Nat) (o : List Int), (mulIn n x y i k d o).length = o.length := by
  intro d
  induction d with
  | zero => intro k o; rfl
  | succ d ih => intro k o; rw [mulIn_succ, ih, mulStep_length]
theorem mulOut_succ (n : Int) (x y : List Int) (i d : Nat) (o : List Int) : mulOut n x y i (d + 1) o = mulOut n x y (i + 1) d (mulIn n x y i 0 (unitsL n).length o) := by
  unfold mulOut; rw [List.range'_succ, List.foldl_cons]
theorem mulOut_length (n : Int) (x y : List Int) : ∀ (d i : Nat) (o : List Int), (mulOut n x y i d o).length = o.length := by
  intro d
  induction d with
  | zero => intro i o; rfl
  | succ d ih => intro i o; rw [mulOut_succ, ih, mulIn_length]
def mulL (n : Int) (x y : List Int) : List Int := mulOut n x y 0 (unitsL n).length (List.replicate (unitsL n).length 0)
theorem mulL_length (n : Int) (x y : List Int) : (mulL n x y).length = (unitsL n).length := by unfold mulL; rw [mulOut_length]; simp
theorem unit_at {n : Int} {i : Nat} (hi : i < (unitsL n).length) : rd (unitsL n) i ∈ unitsL n := by rw [rd_nat _ _ hi]; exact List.getElem_mem hi
theorem unit_mul {n a b : Int} (h40 : n ≤ 40) (ha : a ∈ unitsL n) (hb : b ∈ unitsL n) : 0 ≤ a * b ∧ a * b ≤ 1600 := by
  have h1 := unit_range ha; have h2 := unit_range hb
  exact ⟨Int.mul_nonneg (by omega) (by omega), Int.mul_le_mul (c := 40) (d := 40) (by omega) (by omega) (by omega) (by omega)⟩
def small5 (l : List Int) : Bool := l.all fun x => decide (-100000 ≤ x ∧ x ≤ 100000)
end Go.Proofs.Ytdnpkbhapdkikaa.Plain
