/- Inverses of residues of the moduli 2 to 40, and lists that are filled along them: plain facts. -/
import Derived.Test.YtdnpkbhapdkikaaZPlLists
set_option linter.unusedVariables false
set_option linter.unusedSimpArgs false
namespace Go.Proofs.Ytdnpkbhapdkikaa.Plain
open Go.RowKit Go.Proofs.YtdnpkbhapdkikaaW.PrintWords Go.Proofs.YtdnpkbhapdkikaaW.PrintMore

def invFrom (n a b : Int) : Option Int := (upto b (n - 1)).find? fun b => decide (a * b % n = 1)
/-- The residue that a is multiplied by to 1. -/
def invOf (n a : Int) : Int := (invFrom n a 1).getD 1

theorem inv_all : (iot 2 39).all (fun n => (unitsL n).all fun a => (invFrom n a 1).isSome && (decide (a * invOf n a % n = 1) && ((unitsL n).contains (invOf n a) && decide (invOf n (invOf n a) = a)))) = true := by decide +kernel

theorem inv_facts {n a : Int} (h2 : 2 ≤ n) (h40 : n ≤ 40) (ha : a ∈ unitsL n) : (invFrom n a 1).isSome = true ∧ a * invOf n a % n = 1 ∧ invOf n a ∈ unitsL n ∧ invOf n (invOf n a) = a := by
  have h := List.all_eq_true.1 inv_all n (mem_iot.2 (by omega))
  have h := List.all_eq_true.1 h a ha
  simpa using h

theorem unit_range {n a : Int} (ha : a ∈ unitsL n) : 1 ≤ a ∧ a ≤ n ∧ (Int.gcd a n : Int) = 1 := by
  unfold unitsL at ha
  rw [List.mem_filter, mem_upto] at ha
  exact ⟨ha.1.1, ha.1.2, by simpa using ha.2⟩

theorem invFrom_hit {n a b : Int} (hb : b ≤ n - 1) (h : a * b % n = 1) : invFrom n a b = some b := by
  unfold invFrom; rw [upto_cons hb, List.find?_cons]; simp [h]
theorem invFrom_miss {n a b : Int} (hb : b ≤ n - 1) (h : ¬ a * b % n = 1) : invFrom n a b = invFrom n a (b + 1) := by
  unfold invFrom; rw [upto_cons hb, List.find?_cons]; simp [h]
theorem invFrom_end {n a b : Int} (hb : n - 1 < b) : invFrom n a b = none := by
  unfold invFrom; rw [upto_nil hb]; rfl

theorem nodup_iot (m : Int) (d : Nat) : (iot m d).Nodup := by
  induction d generalizing m with
  | zero => exact List.nodup_nil
  | succ d ih => exact List.nodup_cons.2 ⟨fun h => by have := mem_iot.1 h; omega, ih _⟩
theorem nodup_units (n : Int) : (unitsL n).Nodup := List.Nodup.sublist List.filter_sublist (nodup_iot _ _)

theorem idxOf_drop {l : List Int} {a : Int} {i : Nat} (hi : i < l.length) : (l.drop i).idxOf a = if l[i] = a then 0 else (l.drop (i + 1)).idxOf a + 1 := by
  rw [List.drop_eq_getElem_cons hi, List.idxOf_cons]
  by_cases h : l[i] = a
  · simp [h]
  · rw [if_neg h, beq_false_of_ne h]; rfl

/-- Where the places p(0), p(1), .. of a list are filled with g(0), g(1), .., and p leads back: each place j holds g(p(j)). -/
theorem fill_along (L : Nat) (p : Nat → Nat) (g : Nat → Int) (hp : ∀ i, i < L → p i < L ∧ p (p i) = i) :
    ∀ (m : Nat) (o : List Int), m ≤ L → o.length = L → (∀ j, j < L → p j < m → o[j]? = some (g (p j))) →
      ∀ o', o' = ((List.range' m (L - m)).foldl (fun o i => o.set (p i) (g i)) o) → o'.length = L ∧ ∀ j, j < L → o'[j]? = some (g (p j)) := by
  intro m o hm
  induction hd : L - m generalizing m o with
  | zero =>
    intro hl h o' ho
    simp at ho
    subst ho
    exact ⟨hl, fun j hj => h j hj (by have := (hp j hj).1; omega)⟩
  | succ d ih =>
    intro hl h o' ho
    rw [List.range'_succ, List.foldl_cons] at ho
    refine ih (m + 1) (o.set (p m) (g m)) (by omega) (by omega) (by simpa using hl) ?_ o' ho
    intro j hj hlt
    by_cases e : p j = m
    · have e2 : p m = j := by rw [← e]; exact (hp j hj).2
      rw [e2, e, List.getElem?_set_self (by omega)]
    · have e2 : p m ≠ j := fun e2 => e (by rw [← e2]; exact (hp m (by omega)).2)
      rw [List.getElem?_set_ne e2]
      exact h j hj (by omega)

/-- The place of the inverse of the unit at a place. -/
def invPos (n : Int) (i : Nat) : Nat := (unitsL n).idxOf (invOf n (rd (unitsL n) i))
theorem invPos_facts {n : Int} (h2 : 2 ≤ n) (h40 : n ≤ 40) (i : Nat) (hi : i < (unitsL n).length) :
    invPos n i < (unitsL n).length ∧ invPos n (invPos n i) = i ∧ rd (unitsL n) (invPos n i) = invOf n (rd (unitsL n) i) := by
  have hm : rd (unitsL n) i ∈ unitsL n := by rw [rd_nat _ _ hi]; exact List.getElem_mem hi
  obtain ⟨_, _, h3, h4⟩ := inv_facts h2 h40 hm
  have hlt : invPos n i < (unitsL n).length := List.idxOf_lt_length_of_mem h3
  have hr : rd (unitsL n) (invPos n i) = invOf n (rd (unitsL n) i) := by
    rw [rd_nat _ _ hlt]; exact List.getElem_idxOf hlt
  refine ⟨hlt, ?_, hr⟩
  have e : invPos n (invPos n i) = (unitsL n).idxOf (invOf n (rd (unitsL n) (invPos n i))) := rfl
  rw [e, hr, h4, rd_nat _ _ hi]
  exact List.Nodup.idxOf_getElem (nodup_units n) i hi

end Go.Proofs.Ytdnpkbhapdkikaa.Plain
